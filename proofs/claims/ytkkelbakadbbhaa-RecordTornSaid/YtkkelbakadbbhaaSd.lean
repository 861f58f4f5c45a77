/- What the functions of package pack, and of its reference, compute: numbers read by the reference, texts, lists of texts. -/
import Derived.Test.YtkkelbakadbbhaaSc
import Derived.Lib.Strings
import Derived.Test.YtkkelbakadbbhaaJpack0
import Derived.Test.YtkkelbakadbbhaaJref030
import Derived.Test.YtkkelbakadbbhaaJref031
set_option linter.unusedVariables false
set_option linter.unusedSimpArgs false
namespace Go.Proofs.Ytkkelbakadbbhaa.Sp
open Go.RowKit Go.Proofs.YtkkelbakadbbhaaW.PrintWords Go.Proofs.YtkkelbakadbbhaaW.PrintLast Go.Proofs.YtkkelbakadbbhaaW.PrintMore Go.Proofs.Ytkkelbakadbbhaa.J

/-! ### strings and lists of bytes -/
theorem str_ext {a b : ByteArray} (h : a.toList = b.toList) : a = b := by
  rw [Go.Lib.toList_data, Go.Lib.toList_data] at h
  have : a.data = b.data := Array.ext' h
  cases a; cases b; simp at this; rw [this]
theorem bytesOf_byt (s : ByteArray) : Byt (bytesOf s) := fun x hx => by
  simp only [bytesOf, List.mem_map] at hx
  obtain ⟨b, _, rfl⟩ := hx
  have := b.toNat_lt
  omega
theorem str_bytes (s : ByteArray) : strOfNums (bytesOf s) = s := by
  apply str_ext
  rw [Go.Lib.toList_data, Go.Lib.toList_data, strOfNums_data]
  simp [bytesOf, Function.comp_def]
theorem bytes_str {l : List Int} (h : Byt l) : bytesOf (strOfNums l) = l := by
  simp only [bytesOf, strOfNums_data, List.map_map]
  conv => rhs; rw [← List.map_id l]
  apply List.map_congr_left
  intro x hx
  have := h x hx
  simp only [Function.comp, id]
  rw [UInt8.toNat_ofNat']
  omega
theorem str_inj {a b : List Int} (ha : Byt a) (hb : Byt b) (h : (strOfNums a).toList = (strOfNums b).toList) : a = b := by
  rw [← bytes_str ha, ← bytes_str hb, str_ext h]
theorem ref_Same_eq (a b : List Int) : brokerref03_Same.f a b = some ((strOfNums a).toList == (strOfNums b).toList) := rfl
theorem ref_Same_self (a : List Int) : brokerref03_Same.f a a = some true := by rw [ref_Same_eq, beq_self_eq_true]

/-! ### the reference's Num -/
theorem ref_group {i c x : Nat} (hi : i ≤ 9) (hc : c < 128 ^ i) (hx : x ≤ 255) (h9 : i = 9 → x ≤ 1) :
    IntKind.u64.wrap ((c : Int) + (IntKind.u64.wrap ((IntKind.u64.wrap (Int.tmod (x : Int) 128)) * ((128 ^ i : Nat) : Int)))) = ((c + x % 128 * 128 ^ i : Nat) : Int) ∧ c + x % 128 * 128 ^ i < 2 ^ 64 := by
  have h := (group hi hc hx h9).2
  refine ⟨?_, h⟩
  rw [tmod_nn (by omega)]
  have e1 : (x : Int) % 128 = ((x % 128 : Nat) : Int) := by omega
  rw [e1, u64w (n := ((x % 128 : Nat) : Int)) (by omega) (by omega)]
  have e2 : ((x % 128 : Nat) : Int) * ((128 ^ i : Nat) : Int) = ((x % 128 * 128 ^ i : Nat) : Int) := by push_cast; rfl
  rw [e2, u64w (n := ((x % 128 * 128 ^ i : Nat) : Int)) (by omega) (by omega), u64w (by omega) (by omega)]
  push_cast; rfl
/-- What a number that was read is. -/
theorem rNum_ok {b : List Int} {p n q : Int} (hb : Byt b) (h : rNum b p = (n, q, 0)) :
    0 ≤ p ∧ p < q ∧ q ≤ (b.length : Int) ∧ -9223372036854775808 ≤ n ∧ n ≤ 9223372036854775807 ∧ q = p + ((enc (code n)).length : Int) ∧ (b.drop p.toNat).take (enc (code n)).length = enc (code n) := by
  unfold rNum at h
  by_cases ho : p < 0 ∨ p > (b.length : Int)
  · rw [if_pos ho] at h; simp at h
  · rw [if_neg ho] at h
    cases hd : dec (b.drop p.toNat) 0 0 with
    | trunc => rw [hd] at h; simp at h
    | syn => rw [hd] at h; simp at h
    | ok c k =>
      rw [hd] at h
      simp only [Prod.mk.injEq] at h
      obtain ⟨rfl, rfl, _⟩ := h
      obtain ⟨c', h1, h2, h3, h4, _, h6⟩ := dec_only _ 0 0 c k (hb.drop _) (by omega) hd
      simp at h1 h2 h6
      subst h1
      have hp := enc_pos c
      have hr := num_range h6
      rw [code_num]
      rw [List.length_drop] at h3
      exact ⟨by omega, by omega, by omega, hr.1, hr.2, by omega, h4⟩
theorem rNum_at (l : List Int) (n : Int) (r : List Int) (h0 : -9223372036854775808 ≤ n) (h1 : n ≤ 9223372036854775807) : rNum (l ++ (enc (code n) ++ r)) (l.length : Int) = (n, (l.length : Int) + ((enc (code n)).length : Int), 0) := by
  rw [rNum_in (by omega) (by simp; omega)]
  rw [Int.toNat_natCast, List.drop_left, dec_enc r (code n) 0 0 (by simpa using code_lt h0 h1) (.inl rfl)]
  simp [fin, num_code]
theorem rNum_torn (n : Int) (m : Nat) (h0 : -9223372036854775808 ≤ n) (h1 : n ≤ 9223372036854775807) (hm : m < (enc (code n)).length) : rNum ((enc (code n)).take m) 0 = (0, 0, 3) := by
  rw [rNum_in (by omega) (by omega)]
  have := dec_torn (code n) 0 0 m (by simpa using code_lt h0 h1) (.inl rfl) hm
  simp [this, fin]
theorem rNum_err {b : List Int} {p : Int} : (rNum b p).2.2 = 0 ∨ (rNum b p).2.2 = 1 ∨ (rNum b p).2.2 = 2 ∨ (rNum b p).2.2 = 3 := by
  unfold rNum
  split
  · simp
  · split <;> simp

/-! ### texts -/
def cat (s : ByteArray) : List Int := enc (code (s.size : Int)) ++ bytesOf s
theorem cat_byt (s : ByteArray) : Byt (cat s) := (enc_byt _).append (bytesOf_byt s)
theorem cat_len (s : ByteArray) : (cat s).length = (enc (code (s.size : Int))).length + s.size := by unfold cat; rw [List.length_append, bytesOf_length]
theorem pack_PutText_ev (l : List Int) (s : ByteArray) (hl : l.length ≤ 70368744177664) (hs : s.size ≤ 35184372088832) : Ev (fun k => pack_PutText.f k l s) (l ++ cat s) := by
  unfold pack_PutText.f
  have e1 := enc_len10 (code_lt (n := (s.size : Int)) (by omega) (by omega))
  refine Ev.get (pack_owned_eq l _ (by rw [wrap64_in (by omega) (by omega)]; omega) (by rw [wrap64_in (by omega) (by omega)]; omega)) ?_
  refine Ev.bind (pack_add_ev l _ (by omega) (by omega) (by omega)) (Ev.pos (by rw [List.length_append]; omega) ?_)
  rw [List.append_assoc]; exact Ev.now _
theorem ref_PutText_ev (l : List Int) (s : ByteArray) (hl : l.length ≤ 70368744177664) (hs : s.size ≤ 35184372088832) : Ev (fun k => brokerref03_PutText.f k l s) (l ++ cat s) := by
  unfold brokerref03_PutText.f
  have e1 := enc_len10 (code_lt (n := (s.size : Int)) (by omega) (by omega))
  refine Ev.bind (ref_PutNum_ev l _ (by omega) (by omega) (by omega)) (Ev.pos (by rw [List.length_append]; omega) ?_)
  rw [List.append_assoc]; exact Ev.now _
def cats : List ByteArray → List Int
  | [] => []
  | s :: r => cat s ++ cats r
theorem cats_append (a b : List ByteArray) : cats (a ++ b) = cats a ++ cats b := by
  induction a with
  | nil => rfl
  | cons s r ih => simp [cats, ih]
theorem cats_byt (l : List ByteArray) : Byt (cats l) := by
  induction l with
  | nil => exact Byt.nil
  | cons s r ih => exact (cat_byt s).append ih
def total : List ByteArray → Nat
  | [] => 0
  | s :: r => 10 + s.size + total r
theorem cat_le (s : ByteArray) (hs : s.size ≤ 35184372088832) : (cat s).length ≤ 10 + s.size := by
  rw [cat_len]
  have e1 := enc_len10 (code_lt (n := (s.size : Int)) (by omega) (by omega))
  omega
theorem rdOf_at {α : Type} (d : α) (l : List α) (i : Nat) (h : i < l.length) : rdOf d l (i : Int) = l[i] := by simp [rdOf, List.getD_eq_getElem?_getD, List.getElem?_eq_getElem h]
theorem drop_get {α : Type} (d : α) (l : List α) (i : Nat) (h : i < l.length) : l.drop i = rdOf d l (i : Int) :: l.drop (i + 1) := by rw [rdOf_at d l i h]; exact List.drop_eq_getElem_cons h
def Short (b : Nat) (l : List ByteArray) : Prop := ∀ s ∈ l, s.size ≤ b
theorem Short.drop {b : Nat} {l : List ByteArray} (h : Short b l) (n : Nat) : Short b (l.drop n) := fun s hs => h s (List.mem_of_mem_drop hs)
theorem Short.at_ {b : Nat} {l : List ByteArray} (h : Short b l) (d : ByteArray) {i : Nat} (hi : i < l.length) : (rdOf d l (i : Int)).size ≤ b := by rw [rdOf_at d l i hi]; exact h _ (List.getElem_mem hi)
/-! ### reading texts -/
def cut (b : List Int) (q n : Int) : List Int := (b.take (q + n).toNat).drop q.toNat
def E0 : ByteArray := ⟨#[]⟩
def rText (b : List Int) (p lim : Int) : ByteArray × Int × Int :=
  if (rNum b p).2.2 = 0 then
    if (rNum b p).1 < 0 then (E0, 0, 2) else if (rNum b p).1 > lim then (E0, 0, 5) else if (rNum b p).1 > (b.length : Int) - (rNum b p).2.1 then (E0, 0, 3)
    else (strOfNums (cut b (rNum b p).2.1 (rNum b p).1), (rNum b p).2.1 + (rNum b p).1, 0)
  else (E0, 0, (rNum b p).2.2)
theorem rNum_split {b : List Int} {p : Int} (hb : Byt b) (h : (rNum b p).2.2 = 0) : 0 ≤ p ∧ p < (rNum b p).2.1 ∧ (rNum b p).2.1 ≤ (b.length : Int) ∧ -9223372036854775808 ≤ (rNum b p).1 ∧ (rNum b p).1 ≤ 9223372036854775807 := by
  have h2 := rNum_ok (n := (rNum b p).1) (q := (rNum b p).2.1) hb (by rw [← h])
  exact ⟨h2.1, h2.2.1, h2.2.2.1, h2.2.2.2.1, h2.2.2.2.2.1⟩
theorem pack_Text_ev (b : List Int) (hb : Byt b) (hlen : b.length ≤ 4611686018427387904) (p lim : Int) : Ev (fun k => pack_Text.f k b p lim) (rText b p lim) := by
  unfold pack_Text.f rText
  refine Ev.bind (pack_Num_ev b hb hlen p) ?_
  by_cases h : (rNum b p).2.2 = 0
  · obtain ⟨g1, g2, g3, g4, g5⟩ := rNum_split hb h
    rw [wrap64_in (n := (b.length : Int) - (rNum b p).2.1) (by omega) (by omega)]
    simp only [if_pos h]
    by_cases h1 : (rNum b p).1 < 0
    · simp only [if_pos h1]; exact Ev.now _
    · simp only [if_neg h1]
      by_cases h2 : (rNum b p).1 > lim
      · simp only [if_pos h2]; exact Ev.now _
      · simp only [if_neg h2]
        by_cases h3 : (rNum b p).1 > (b.length : Int) - (rNum b p).2.1
        · simp only [if_pos h3]; exact Ev.now _
        · rw [wrap64_in (n := (rNum b p).2.1 + (rNum b p).1) (by omega) (by omega)]
          simp only [if_neg h3]
          exact Ev.pos (by omega) (Ev.pos (by omega) (Ev.pos (by omega) (Ev.now _)))
  · simp only [if_neg h]
    exact Ev.now _
def rCount (b : List Int) (p lim : Int) : Int × Int × Int :=
  if (rNum b p).2.2 = 0 then if (rNum b p).1 < 0 then (0, 0, 2) else if (rNum b p).1 > lim then (0, 0, 5) else ((rNum b p).1, (rNum b p).2.1, 0) else (0, 0, (rNum b p).2.2)
theorem rText_ok {b : List Int} {p lim q : Int} {s : ByteArray} (hb : Byt b) (h : rText b p lim = (s, q, 0)) :
    0 ≤ p ∧ p < q ∧ q ≤ (b.length : Int) ∧ (s.size : Int) ≤ lim ∧ q = p + ((cat s).length : Int) ∧ (b.drop p.toNat).take (cat s).length = cat s := by
  unfold rText at h
  by_cases h0 : (rNum b p).2.2 = 0
  · rw [if_pos h0] at h
    by_cases h1 : (rNum b p).1 < 0
    · rw [if_pos h1] at h; simp at h
    · rw [if_neg h1] at h
      by_cases h2 : (rNum b p).1 > lim
      · rw [if_pos h2] at h; simp at h
      · rw [if_neg h2] at h
        by_cases h3 : (rNum b p).1 > (b.length : Int) - (rNum b p).2.1
        · rw [if_pos h3] at h; simp at h
        · rw [if_neg h3] at h
          simp only [Prod.mk.injEq, and_true] at h
          obtain ⟨rfl, rfl⟩ := h
          obtain ⟨g1, g2, g3, g4, g5, g6, g7⟩ := rNum_ok (n := (rNum b p).1) (q := (rNum b p).2.1) hb (by rw [← h0])
          generalize (rNum b p).1 = n at *
          generalize (rNum b p).2.1 = q at *
          have hcl : (cut b q n).length = n.toNat := by unfold cut; rw [List.length_drop, List.length_take]; omega
          have hsz : (strOfNums (cut b q n)).size = n.toNat := by rw [strOfNums_size, hcl]
          have hcat : cat (strOfNums (cut b q n)) = enc (code n) ++ cut b q n := by
            unfold cat
            rw [hsz, bytes_str (l := cut b q n) ((hb.take _).drop _), show ((n.toNat : Nat) : Int) = n from by omega]
          have hlen : (cat (strOfNums (cut b q n))).length = (enc (code n)).length + n.toNat := by rw [hcat, List.length_append, hcl]
          refine ⟨g1, by omega, by omega, by rw [hsz]; omega, by rw [hlen]; omega, ?_⟩
          rw [hlen, hcat, List.take_add, g7]
          congr 1
          rw [List.drop_drop]
          unfold cut
          rw [List.drop_take]
          congr 1
          · omega
          · congr 1; omega
  · rw [if_neg h0] at h
    simp only [Prod.mk.injEq] at h
    exact absurd h.2.2 h0
theorem rText_at (l : List Int) (s : ByteArray) (r : List Int) (lim : Int) (hs : (s.size : Int) ≤ lim) (hsz : s.size ≤ 35184372088832) : rText (l ++ (cat s ++ r)) (l.length : Int) lim = (s, (l.length : Int) + ((cat s).length : Int), 0) := by
  have e : l ++ (cat s ++ r) = l ++ (enc (code (s.size : Int)) ++ (bytesOf s ++ r)) := by unfold cat; rw [List.append_assoc]
  unfold rText
  rw [e, rNum_at l (s.size : Int) (bytesOf s ++ r) (by omega) (by omega)]
  dsimp only
  have hb := bytesOf_length s
  rw [if_pos rfl, if_neg (by omega), if_neg (by omega), if_neg (by simp only [List.length_append]; omega)]
  have hc : cut (l ++ (enc (code (s.size : Int)) ++ (bytesOf s ++ r))) ((l.length : Int) + ((enc (code (s.size : Int))).length : Int)) (s.size : Int) = bytesOf s := by
    unfold cut
    rw [show ((l.length : Int) + ((enc (code (s.size : Int))).length : Int) + (s.size : Int)).toNat = l.length + ((enc (code (s.size : Int))).length + s.size) from by omega, show ((l.length : Int) + ((enc (code (s.size : Int))).length : Int)).toNat = l.length + (enc (code (s.size : Int))).length from by omega]
    rw [List.take_append, List.drop_append, List.take_of_length_le (by omega), List.drop_of_length_le (by omega), List.nil_append, Nat.add_sub_cancel_left, Nat.add_sub_cancel_left]
    rw [List.take_append, List.drop_append, List.take_of_length_le (by omega), List.drop_of_length_le (by omega), List.nil_append, Nat.add_sub_cancel_left, Nat.sub_self, List.drop_zero, ← hb, List.take_left]
  rw [hc, str_bytes, cat_len]
  simp only [Prod.mk.injEq, true_and, and_true]
  push_cast; omega
theorem rText_torn (s : ByteArray) (m : Nat) (lim : Int) (hs : (s.size : Int) ≤ lim) (hsz : s.size ≤ 35184372088832) (hm : m < (cat s).length) : rText ((cat s).take m) 0 lim = (E0, 0, 3) := by
  rw [cat_len] at hm
  by_cases h : m < (enc (code (s.size : Int))).length
  · have e : (cat s).take m = (enc (code (s.size : Int))).take m := by unfold cat; rw [List.take_append_of_le_length (by omega)]
    unfold rText
    rw [e, rNum_torn (s.size : Int) m (by omega) (by omega) h]
    rfl
  · have e : (cat s).take m = [] ++ (enc (code (s.size : Int)) ++ (bytesOf s).take (m - (enc (code (s.size : Int))).length)) := by unfold cat; rw [List.take_append, List.take_of_length_le (by omega)]; rfl
    have h2 := rNum_at [] (s.size : Int) ((bytesOf s).take (m - (enc (code (s.size : Int))).length)) (by omega) (by omega)
    unfold rText
    rw [e]
    simp only [List.length_nil] at h2
    rw [show ((0 : Nat) : Int) = 0 from rfl] at h2
    rw [h2]
    dsimp only
    have hb := bytesOf_length s
    rw [if_pos rfl, if_neg (by omega), if_neg (by omega), if_pos (by simp only [List.length_append, List.length_take, List.length_nil]; omega)]
end Go.Proofs.Ytkkelbakadbbhaa.Sp
