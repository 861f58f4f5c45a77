/- What the functions of package pack, and of its reference, compute: numbers read by the reference, texts, lists of texts. -/
import Derived.Test.YtkklehfcadkikaaSc
import Derived.Lib.Strings
import Derived.Test.YtkklehfcadkikaaJpack1
import Derived.Test.YtkklehfcadkikaaJref030
import Derived.Test.YtkklehfcadkikaaJref032
import Derived.Test.YtkklehfcadkikaaJref033
import Derived.Test.YtkklehfcadkikaaJref035
import Derived.Test.YtkklehfcadkikaaJref036
set_option linter.unusedVariables false
set_option linter.unusedSimpArgs false
namespace Go.Proofs.Ytkklehfcadkikaa.Sp
open Go.RowKit Go.Proofs.YtkklehfcadkikaaW.PrintWords Go.Proofs.YtkklehfcadkikaaW.PrintLast Go.Proofs.YtkklehfcadkikaaW.PrintMore Go.Proofs.Ytkklehfcadkikaa.J

/-! ### strings and lists of bytes -/
theorem str_ext {a b : ByteArray} (h : a.toList = b.toList) : a = b := by
  rw [Go.Lib.toList_data, Go.Lib.toList_data] at h
  have : a.data = b.data := Array.ext' h
  cases a; cases b; simp at this; rw [this]
theorem bytesOf_byt (s : ByteArray) : Byt (bytesOf s) := fun x hx => by
  simp only [bytesOf, List.mem_map] at hx
  obtain ⟨b, _, rfl⟩ := hx
  have := b.toNat_lt
  omega
theorem str_bytes (s : ByteArray) : strOfNums (bytesOf s) = s := by
  apply str_ext
  rw [Go.Lib.toList_data, Go.Lib.toList_data, strOfNums_data]
  simp [bytesOf, Function.comp_def]
theorem bytes_str {l : List Int} (h : Byt l) : bytesOf (strOfNums l) = l := by
  simp only [bytesOf, strOfNums_data, List.map_map]
  conv => rhs; rw [← List.map_id l]
  apply List.map_congr_left
  intro x hx
  have := h x hx
  simp only [Function.comp, id]
  rw [UInt8.toNat_ofNat']
  omega
theorem str_inj {a b : List Int} (ha : Byt a) (hb : Byt b) (h : (strOfNums a).toList = (strOfNums b).toList) : a = b := by
  rw [← bytes_str ha, ← bytes_str hb, str_ext h]
theorem ref_Same_eq (a b : List Int) : brokerref03_Same.f a b = some ((strOfNums a).toList == (strOfNums b).toList) := rfl
theorem ref_Same_self (a : List Int) : brokerref03_Same.f a a = some true := by rw [ref_Same_eq, beq_self_eq_true]

/-! ### the reference's Num -/
theorem ref_group {i c x : Nat} (hi : i ≤ 9) (hc : c < 128 ^ i) (hx : x ≤ 255) (h9 : i = 9 → x ≤ 1) :
    IntKind.u64.wrap ((c : Int) + (IntKind.u64.wrap ((IntKind.u64.wrap (Int.tmod (x : Int) 128)) * ((128 ^ i : Nat) : Int)))) = ((c + x % 128 * 128 ^ i : Nat) : Int) ∧ c + x % 128 * 128 ^ i < 2 ^ 64 := by
  have h := (group hi hc hx h9).2
  refine ⟨?_, h⟩
  rw [tmod_nn (by omega)]
  have e1 : (x : Int) % 128 = ((x % 128 : Nat) : Int) := by omega
  rw [e1, u64w (n := ((x % 128 : Nat) : Int)) (by omega) (by omega)]
  have e2 : ((x % 128 : Nat) : Int) * ((128 ^ i : Nat) : Int) = ((x % 128 * 128 ^ i : Nat) : Int) := by push_cast; rfl
  rw [e2, u64w (n := ((x % 128 * 128 ^ i : Nat) : Int)) (by omega) (by omega), u64w (by omega) (by omega)]
  push_cast; rfl
theorem ref_Num_l0 (b : List Int) (hb : Byt b) (hlen : b.length ≤ 4611686018427387904) (p : Nat) : ∀ (d i c : Nat), i + d = 10 → p + i ≤ b.length → c < 128 ^ i → i ≤ 9 → Ev (fun k => brokerref03_Num.l0 k b (p : Int) (c : Int) ((128 ^ i : Nat) : Int) (i : Int)) (fin p (dec (b.drop (p + i)) i c)) := by
  intro d
  induction d with
  | zero => intro i c h _ _ h9; omega
  | succ d ih =>
    intro i c hd hp hc hi
    have hw : wrap64 ((p : Int) + (i : Int)) = ((p + i : Nat) : Int) := by rw [wrap64_in (by omega) (by omega)]; omega
    have hw2 : wrap64 ((b.length : Int) - (p : Int)) = (b.length : Int) - (p : Int) := wrap64_in (by omega) (by omega)
    by_cases he : p + i = b.length
    · refine Ev.step (f := fun _ => some (0, 0, 3)) (fun k => ?_) ?_
      · simp only [brokerref03_Num.l0]; rw [hw2, if_pos (by omega), if_pos (by omega)]
      · rw [he, List.drop_length]; exact Ev.now _
    · have hlt : p + i < b.length := by omega
      have hx := rd_byt hb hlt
      obtain ⟨x, hxe⟩ := Int.eq_ofNat_of_zero_le hx.1
      have hx255 : x ≤ 255 := by omega
      rw [drop_rd hlt, hxe]
      by_cases hs : (i = 9 ∧ 1 < ((x : Nat) : Int)) ∨ (0 < i ∧ ((x : Nat) : Int) = 0)
      · rw [dec_syn hs]
        refine Ev.step (f := fun k => brokerref03_Num.j2 k b (p : Int) (c : Int) ((128 ^ i : Nat) : Int) (i : Int) (x : Int) true) (fun k => ?_) ?_
        · simp only [brokerref03_Num.l0]
          rw [hw, hw2, hxe, if_pos (by omega), if_neg (by omega), if_pos (by omega), if_pos (by omega)]
          by_cases h9 : (i : Int) = 9
          · rw [if_pos h9]
            by_cases h1 : ((x : Nat) : Int) = 1
            · omega
            · rw [if_neg h1]
          · rw [if_neg h9, if_pos (by omega), show (((x : Nat) : Int) == 0) = true from by rw [beq_iff_eq]; omega]
        · refine Ev.step (f := fun _ => some (0, 0, 2)) (fun k => ?_) (Ev.now _)
          simp only [brokerref03_Num.j2, if_true]
      · obtain ⟨hg, hglt⟩ := ref_group (c := c) hi hc hx255 (fun h => by omega)
        refine Ev.step (f := fun k => brokerref03_Num.j2 k b (p : Int) (c : Int) ((128 ^ i : Nat) : Int) (i : Int) (x : Int) false) (fun k => ?_) ?_
        · simp only [brokerref03_Num.l0]
          rw [hw, hw2, hxe, if_pos (by omega), if_neg (by omega), if_pos (by omega), if_pos (by omega)]
          by_cases h9 : (i : Int) = 9
          · rw [if_pos h9, if_pos (by omega), if_pos (by omega), show (((x : Nat) : Int) == 0) = false from by rw [beq_eq_false_iff_ne]; omega]
          · rw [if_neg h9]
            by_cases h0 : (i : Int) > 0
            · rw [if_pos h0, show (((x : Nat) : Int) == 0) = false from by rw [beq_eq_false_iff_ne]; omega]
            · rw [if_neg h0]
        · by_cases hlt128 : ((x : Nat) : Int) < 128
          · rw [dec_ok hs hlt128]
            have e1 : (x : Int).toNat = x % 128 := by omega
            refine Ev.step (f := fun _ => some (num (c + x % 128 * 128 ^ i), (p : Int) + ((i + 1 : Nat) : Int), 0)) (fun k => ?_) ?_
            · simp only [brokerref03_Num.j2]
              rw [if_neg (by simp), if_pos hlt128, hg, ref_number_eq _ hglt, hw]
              simp only [Option.bind_some]
              rw [wrap64_in (by omega) (by omega)]
              congr 3
            · show Ev _ (num (c + (x : Int).toNat * 128 ^ i), (p : Int) + ((i + 1 : Nat) : Int), 0)
              rw [e1]; exact Ev.now _
          · rw [dec_more hs hlt128]
            have e1 : (x : Int).toNat - 128 = x % 128 := by omega
            have hi9 : i ≠ 9 := by omega
            have h2 := ih (i + 1) (c + x % 128 * 128 ^ i) (by omega) (by omega) (next_lt hc) (by omega)
            rw [e1]
            refine Ev.step (fun k => ?_) h2
            simp only [brokerref03_Num.j2]
            have e2 : IntKind.u64.wrap (((128 ^ i : Nat) : Int) * 128) = ((128 ^ (i + 1) : Nat) : Int) := by
              have h8 : 128 ^ (i + 1) ≤ 128 ^ 9 := Nat.pow_le_pow_right (by decide) (by omega)
              have e3 : ((128 ^ i : Nat) : Int) * 128 = ((128 ^ (i + 1) : Nat) : Int) := by rw [Nat.pow_succ]; push_cast; rfl
              rw [pow128_9] at h8
              rw [e3, u64w (by omega) (by omega)]
            rw [if_neg (by simp), if_neg hlt128, hg, e2, wrap64_in (by omega) (by omega)]
            rfl
theorem ref_Num_ev (b : List Int) (hb : Byt b) (hlen : b.length ≤ 4611686018427387904) (p : Int) : Ev (fun k => brokerref03_Num.f k b p) (rNum b p) := by
  unfold brokerref03_Num.f
  by_cases h0 : p < 0
  · rw [rNum_out (.inl h0)]
    refine Ev.pos h0 (Ev.step (f := fun _ => some (0, 0, 1)) (fun k => ?_) (Ev.now _))
    simp only [brokerref03_Num.j0, if_true]
  · refine Ev.neg h0 ?_
    by_cases h1 : p > (b.length : Int)
    · rw [rNum_out (.inr h1), show decide (p > (b.length : Int)) = true from decide_eq_true h1]
      refine Ev.step (f := fun _ => some (0, 0, 1)) (fun k => ?_) (Ev.now _)
      simp only [brokerref03_Num.j0, if_true]
    · rw [show decide (p > (b.length : Int)) = false from decide_eq_false h1]
      obtain ⟨q, rfl⟩ := Int.eq_ofNat_of_zero_le (by omega : 0 ≤ p)
      rw [rNum_in (by omega) (by omega)]
      refine Ev.step (fun k => ?_) (ref_Num_l0 b hb hlen q 10 0 0 rfl (by omega) (by decide) (by omega))
      simp only [brokerref03_Num.j0]
      rw [if_neg (by simp)]
      rfl
/-- What a number that was read is. -/
theorem rNum_ok {b : List Int} {p n q : Int} (hb : Byt b) (h : rNum b p = (n, q, 0)) :
    0 ≤ p ∧ p < q ∧ q ≤ (b.length : Int) ∧ -9223372036854775808 ≤ n ∧ n ≤ 9223372036854775807 ∧ q = p + ((enc (code n)).length : Int) ∧ (b.drop p.toNat).take (enc (code n)).length = enc (code n) := by
  unfold rNum at h
  by_cases ho : p < 0 ∨ p > (b.length : Int)
  · rw [if_pos ho] at h; simp at h
  · rw [if_neg ho] at h
    cases hd : dec (b.drop p.toNat) 0 0 with
    | trunc => rw [hd] at h; simp at h
    | syn => rw [hd] at h; simp at h
    | ok c k =>
      rw [hd] at h
      simp only [Prod.mk.injEq] at h
      obtain ⟨rfl, rfl, _⟩ := h
      obtain ⟨c', h1, h2, h3, h4, _, h6⟩ := dec_only _ 0 0 c k (hb.drop _) (by omega) hd
      simp at h1 h2 h6
      subst h1
      have hp := enc_pos c
      have hr := num_range h6
      rw [code_num]
      rw [List.length_drop] at h3
      exact ⟨by omega, by omega, by omega, hr.1, hr.2, by omega, h4⟩
theorem rNum_at (l : List Int) (n : Int) (r : List Int) (h0 : -9223372036854775808 ≤ n) (h1 : n ≤ 9223372036854775807) : rNum (l ++ (enc (code n) ++ r)) (l.length : Int) = (n, (l.length : Int) + ((enc (code n)).length : Int), 0) := by
  rw [rNum_in (by omega) (by simp; omega)]
  rw [Int.toNat_natCast, List.drop_left, dec_enc r (code n) 0 0 (by simpa using code_lt h0 h1) (.inl rfl)]
  simp [fin, num_code]
theorem rNum_torn (n : Int) (m : Nat) (h0 : -9223372036854775808 ≤ n) (h1 : n ≤ 9223372036854775807) (hm : m < (enc (code n)).length) : rNum ((enc (code n)).take m) 0 = (0, 0, 3) := by
  rw [rNum_in (by omega) (by omega)]
  have := dec_torn (code n) 0 0 m (by simpa using code_lt h0 h1) (.inl rfl) hm
  simp [this, fin]
theorem rNum_err {b : List Int} {p : Int} : (rNum b p).2.2 = 0 ∨ (rNum b p).2.2 = 1 ∨ (rNum b p).2.2 = 2 ∨ (rNum b p).2.2 = 3 := by
  unfold rNum
  split
  · simp
  · split <;> simp

/-! ### texts -/
def cat (s : ByteArray) : List Int := enc (code (s.size : Int)) ++ bytesOf s
theorem cat_byt (s : ByteArray) : Byt (cat s) := (enc_byt _).append (bytesOf_byt s)
theorem cat_len (s : ByteArray) : (cat s).length = (enc (code (s.size : Int))).length + s.size := by unfold cat; rw [List.length_append, bytesOf_length]
theorem pack_PutText_ev (l : List Int) (s : ByteArray) (hl : l.length ≤ 70368744177664) (hs : s.size ≤ 35184372088832) : Ev (fun k => pack_PutText.f k l s) (l ++ cat s) := by
  unfold pack_PutText.f
  have e1 := enc_len10 (code_lt (n := (s.size : Int)) (by omega) (by omega))
  refine Ev.get (pack_owned_eq l _ (by rw [wrap64_in (by omega) (by omega)]; omega) (by rw [wrap64_in (by omega) (by omega)]; omega)) ?_
  refine Ev.bind (pack_add_ev l _ (by omega) (by omega) (by omega)) (Ev.pos (by rw [List.length_append]; omega) ?_)
  rw [List.append_assoc]; exact Ev.now _
theorem ref_PutText_ev (l : List Int) (s : ByteArray) (hl : l.length ≤ 70368744177664) (hs : s.size ≤ 35184372088832) : Ev (fun k => brokerref03_PutText.f k l s) (l ++ cat s) := by
  unfold brokerref03_PutText.f
  have e1 := enc_len10 (code_lt (n := (s.size : Int)) (by omega) (by omega))
  refine Ev.bind (ref_PutNum_ev l _ (by omega) (by omega) (by omega)) (Ev.pos (by rw [List.length_append]; omega) ?_)
  rw [List.append_assoc]; exact Ev.now _
def cats : List ByteArray → List Int
  | [] => []
  | s :: r => cat s ++ cats r
theorem cats_append (a b : List ByteArray) : cats (a ++ b) = cats a ++ cats b := by
  induction a with
  | nil => rfl
  | cons s r ih => simp [cats, ih]
theorem cats_byt (l : List ByteArray) : Byt (cats l) := by
  induction l with
  | nil => exact Byt.nil
  | cons s r ih => exact (cat_byt s).append ih
def total : List ByteArray → Nat
  | [] => 0
  | s :: r => 10 + s.size + total r
theorem cat_le (s : ByteArray) (hs : s.size ≤ 35184372088832) : (cat s).length ≤ 10 + s.size := by
  rw [cat_len]
  have e1 := enc_len10 (code_lt (n := (s.size : Int)) (by omega) (by omega))
  omega
theorem rdOf_at {α : Type} (d : α) (l : List α) (i : Nat) (h : i < l.length) : rdOf d l (i : Int) = l[i] := by simp [rdOf, List.getD_eq_getElem?_getD, List.getElem?_eq_getElem h]
theorem drop_get {α : Type} (d : α) (l : List α) (i : Nat) (h : i < l.length) : l.drop i = rdOf d l (i : Int) :: l.drop (i + 1) := by rw [rdOf_at d l i h]; exact List.drop_eq_getElem_cons h
def Short (b : Nat) (l : List ByteArray) : Prop := ∀ s ∈ l, s.size ≤ b
theorem Short.drop {b : Nat} {l : List ByteArray} (h : Short b l) (n : Nat) : Short b (l.drop n) := fun s hs => h s (List.mem_of_mem_drop hs)
theorem Short.at_ {b : Nat} {l : List ByteArray} (h : Short b l) (d : ByteArray) {i : Nat} (hi : i < l.length) : (rdOf d l (i : Int)).size ≤ b := by rw [rdOf_at d l i hi]; exact h _ (List.getElem_mem hi)
theorem pack_PutTexts_l0 (l : List ByteArray) (B : Nat) (hB : B ≤ 1099511627776) (hs : Short B l) (hl : l.length ≤ 4294967296) : ∀ (d i : Nat) (x : List Int), i + d = l.length → x.length + d * (B + 10) ≤ 70368744177664 → Ev (fun k => pack_PutTexts.l0 k x l (l.length : Int) (i : Int)) (x ++ cats (l.drop i)) := by
  intro d
  induction d with
  | zero =>
    intro i x hi hx
    refine Ev.step (f := fun _ => some x) (fun k => ?_) ?_
    · simp only [pack_PutTexts.l0]; rw [if_neg (by omega)]
    · rw [List.drop_of_length_le (by omega)]; simp only [cats, List.append_nil]; exact Ev.now _
  | succ d ih =>
    intro i x hi hx
    have hlt : i < l.length := by omega
    have hsz := hs.at_ ByteArray.empty hlt
    rw [Nat.succ_mul] at hx
    have e1 := enc_len10 (code_lt (n := ((rdOf ByteArray.empty l (i : Int)).size : Int)) (by omega) (by omega))
    rw [drop_get ByteArray.empty l i hlt]
    have hc := cat_le (rdOf ByteArray.empty l (i : Int)) (by omega)
    have h2 := ih (i + 1) (x ++ cat (rdOf ByteArray.empty l (i : Int))) (by omega) (by rw [List.length_append]; omega)
    rw [List.append_assoc] at h2
    refine Ev.step (f := fun k => (pack_add.f k x ((rdOf ByteArray.empty l (i : Int)).size : Int)).bind fun t => if t.length + (rdOf ByteArray.empty l (i : Int)).size < 140737488355328 then pack_PutTexts.l0 k (t ++ bytesOf (rdOf ByteArray.empty l (i : Int))) l (l.length : Int) ((i + 1 : Nat) : Int) else none) (fun k => ?_) ?_
    · simp only [pack_PutTexts.l0]
      rw [if_pos (by omega), if_pos (by omega), if_pos (by omega), wrap64_in (by omega) (by omega)]
      rfl
    · refine Ev.bind (pack_add_ev x _ (by omega) (by omega) (by omega)) (Ev.pos (by rw [List.length_append]; omega) ?_)
      rw [List.append_assoc]; exact h2
theorem pack_PutTexts_ev (x : List Int) (l : List ByteArray) (B : Nat) (hB : B ≤ 1099511627776) (hs : Short B l) (hl : l.length ≤ 4294967296) (hx : x.length + 10 + l.length * (B + 10) ≤ 70368744177664) : Ev (fun k => pack_PutTexts.f k x l) (x ++ (enc (code (l.length : Int)) ++ cats l)) := by
  unfold pack_PutTexts.f
  have e1 := enc_len10 (code_lt (n := (l.length : Int)) (by omega) (by omega))
  refine Ev.get (pack_owned_eq x 10 (by omega) (by omega)) (Ev.bind (pack_add_ev x _ (by omega) (by omega) (by omega)) ?_)
  have h := pack_PutTexts_l0 l B hB hs hl l.length 0 (x ++ enc (code (l.length : Int))) (by omega) (by rw [List.length_append]; omega)
  rw [List.drop_zero, List.append_assoc] at h
  exact h
theorem ref_PutTexts_l0 (l : List ByteArray) (B : Nat) (hB : B ≤ 1099511627776) (hs : Short B l) (hl : l.length ≤ 4294967296) : ∀ (d i : Nat) (x : List Int), i + d = l.length → x.length + d * (B + 10) ≤ 70368744177664 → Ev (fun k => brokerref03_PutTexts.l0 k l x (i : Int)) (x ++ cats (l.drop i)) := by
  intro d
  induction d with
  | zero =>
    intro i x hi hx
    refine Ev.step (f := fun _ => some x) (fun k => ?_) ?_
    · simp only [brokerref03_PutTexts.l0]; rw [if_neg (by omega)]
    · rw [List.drop_of_length_le (by omega)]; simp only [cats, List.append_nil]; exact Ev.now _
  | succ d ih =>
    intro i x hi hx
    have hlt : i < l.length := by omega
    have hsz := hs.at_ ByteArray.empty hlt
    rw [Nat.succ_mul] at hx
    rw [drop_get ByteArray.empty l i hlt]
    have hc := cat_le (rdOf ByteArray.empty l (i : Int)) (by omega)
    have h2 := ih (i + 1) (x ++ cat (rdOf ByteArray.empty l (i : Int))) (by omega) (by rw [List.length_append]; omega)
    rw [List.append_assoc] at h2
    refine Ev.step (f := fun k => (brokerref03_PutText.f k x (rdOf ByteArray.empty l (i : Int))).bind fun t => brokerref03_PutTexts.l0 k l t ((i + 1 : Nat) : Int)) (fun k => ?_) ?_
    · simp only [brokerref03_PutTexts.l0]
      rw [if_pos (by omega), if_pos (by omega), wrap64_in (by omega) (by omega)]
      rfl
    · exact Ev.bind (ref_PutText_ev x _ (by omega) (by omega)) h2
theorem ref_PutTexts_ev (x : List Int) (l : List ByteArray) (B : Nat) (hB : B ≤ 1099511627776) (hs : Short B l) (hl : l.length ≤ 4294967296) (hx : x.length + 10 + l.length * (B + 10) ≤ 70368744177664) : Ev (fun k => brokerref03_PutTexts.f k x l) (x ++ (enc (code (l.length : Int)) ++ cats l)) := by
  unfold brokerref03_PutTexts.f
  have e1 := enc_len10 (code_lt (n := (l.length : Int)) (by omega) (by omega))
  refine Ev.bind (ref_PutNum_ev x _ (by omega) (by omega) (by omega)) ?_
  have h := ref_PutTexts_l0 l B hB hs hl l.length 0 (x ++ enc (code (l.length : Int))) (by omega) (by rw [List.length_append]; omega)
  rw [List.drop_zero, List.append_assoc] at h
  exact h

/-! ### reading texts -/
def cut (b : List Int) (q n : Int) : List Int := (b.take (q + n).toNat).drop q.toNat
def E0 : ByteArray := ⟨#[]⟩
def rText (b : List Int) (p lim : Int) : ByteArray × Int × Int :=
  if (rNum b p).2.2 = 0 then
    if (rNum b p).1 < 0 then (E0, 0, 2) else if (rNum b p).1 > lim then (E0, 0, 5) else if (rNum b p).1 > (b.length : Int) - (rNum b p).2.1 then (E0, 0, 3)
    else (strOfNums (cut b (rNum b p).2.1 (rNum b p).1), (rNum b p).2.1 + (rNum b p).1, 0)
  else (E0, 0, (rNum b p).2.2)
theorem rNum_split {b : List Int} {p : Int} (hb : Byt b) (h : (rNum b p).2.2 = 0) : 0 ≤ p ∧ p < (rNum b p).2.1 ∧ (rNum b p).2.1 ≤ (b.length : Int) ∧ -9223372036854775808 ≤ (rNum b p).1 ∧ (rNum b p).1 ≤ 9223372036854775807 := by
  have h2 := rNum_ok (n := (rNum b p).1) (q := (rNum b p).2.1) hb (by rw [← h])
  exact ⟨h2.1, h2.2.1, h2.2.2.1, h2.2.2.2.1, h2.2.2.2.2.1⟩
theorem pack_Text_ev (b : List Int) (hb : Byt b) (hlen : b.length ≤ 4611686018427387904) (p lim : Int) : Ev (fun k => pack_Text.f k b p lim) (rText b p lim) := by
  unfold pack_Text.f rText
  refine Ev.bind (pack_Num_ev b hb hlen p) ?_
  by_cases h : (rNum b p).2.2 = 0
  · obtain ⟨g1, g2, g3, g4, g5⟩ := rNum_split hb h
    rw [wrap64_in (n := (b.length : Int) - (rNum b p).2.1) (by omega) (by omega)]
    simp only [if_pos h]
    by_cases h1 : (rNum b p).1 < 0
    · simp only [if_pos h1]; exact Ev.now _
    · simp only [if_neg h1]
      by_cases h2 : (rNum b p).1 > lim
      · simp only [if_pos h2]; exact Ev.now _
      · simp only [if_neg h2]
        by_cases h3 : (rNum b p).1 > (b.length : Int) - (rNum b p).2.1
        · simp only [if_pos h3]; exact Ev.now _
        · rw [wrap64_in (n := (rNum b p).2.1 + (rNum b p).1) (by omega) (by omega)]
          simp only [if_neg h3]
          exact Ev.pos (by omega) (Ev.pos (by omega) (Ev.pos (by omega) (Ev.now _)))
  · simp only [if_neg h]
    exact Ev.now _
def rCount (b : List Int) (p lim : Int) : Int × Int × Int :=
  if (rNum b p).2.2 = 0 then if (rNum b p).1 < 0 then (0, 0, 2) else if (rNum b p).1 > lim then (0, 0, 5) else ((rNum b p).1, (rNum b p).2.1, 0) else (0, 0, (rNum b p).2.2)
theorem ref_Count_ev (b : List Int) (hb : Byt b) (hlen : b.length ≤ 4611686018427387904) (p lim : Int) : Ev (fun k => brokerref03_Count.f k b p lim) (rCount b p lim) := by
  unfold brokerref03_Count.f rCount
  refine Ev.bind (ref_Num_ev b hb hlen p) ?_
  by_cases h : (rNum b p).2.2 = 0
  · simp only [if_pos h]
    by_cases h1 : (rNum b p).1 < 0
    · simp only [if_pos h1]; exact Ev.now _
    · simp only [if_neg h1]
      by_cases h2 : (rNum b p).1 > lim
      · simp only [if_pos h2]; exact Ev.now _
      · simp only [if_neg h2]; exact Ev.now _
  · simp only [if_neg h]; exact Ev.now _
theorem ref_Text_ev (b : List Int) (hb : Byt b) (hlen : b.length ≤ 4611686018427387904) (p lim : Int) : Ev (fun k => brokerref03_Text.f k b p lim) (rText b p lim) := by
  unfold brokerref03_Text.f rText
  refine Ev.bind (ref_Count_ev b hb hlen p lim) ?_
  unfold rCount
  by_cases h : (rNum b p).2.2 = 0
  · obtain ⟨g1, g2, g3, g4, g5⟩ := rNum_split hb h
    simp only [if_pos h]
    by_cases h1 : (rNum b p).1 < 0
    · simp only [if_pos h1]; exact Ev.neg (by simp) (Ev.now _)
    · simp only [if_neg h1]
      by_cases h2 : (rNum b p).1 > lim
      · simp only [if_pos h2]; exact Ev.neg (by simp) (Ev.now _)
      · simp only [if_neg h2, if_true]
        rw [wrap64_in (n := (b.length : Int) - (rNum b p).2.1) (by omega) (by omega)]
        by_cases h3 : (rNum b p).1 > (b.length : Int) - (rNum b p).2.1
        · simp only [if_pos h3]; exact Ev.now _
        · rw [wrap64_in (n := (rNum b p).2.1 + (rNum b p).1) (by omega) (by omega)]
          simp only [if_neg h3]
          exact Ev.pos (by omega) (Ev.pos (by omega) (Ev.pos (by omega) (Ev.now _)))
  · simp only [if_neg h]
    exact Ev.now _
theorem rText_ok {b : List Int} {p lim q : Int} {s : ByteArray} (hb : Byt b) (h : rText b p lim = (s, q, 0)) :
    0 ≤ p ∧ p < q ∧ q ≤ (b.length : Int) ∧ (s.size : Int) ≤ lim ∧ q = p + ((cat s).length : Int) ∧ (b.drop p.toNat).take (cat s).length = cat s := by
  unfold rText at h
  by_cases h0 : (rNum b p).2.2 = 0
  · rw [if_pos h0] at h
    by_cases h1 : (rNum b p).1 < 0
    · rw [if_pos h1] at h; simp at h
    · rw [if_neg h1] at h
      by_cases h2 : (rNum b p).1 > lim
      · rw [if_pos h2] at h; simp at h
      · rw [if_neg h2] at h
        by_cases h3 : (rNum b p).1 > (b.length : Int) - (rNum b p).2.1
        · rw [if_pos h3] at h; simp at h
        · rw [if_neg h3] at h
          simp only [Prod.mk.injEq, and_true] at h
          obtain ⟨rfl, rfl⟩ := h
          obtain ⟨g1, g2, g3, g4, g5, g6, g7⟩ := rNum_ok (n := (rNum b p).1) (q := (rNum b p).2.1) hb (by rw [← h0])
          generalize (rNum b p).1 = n at *
          generalize (rNum b p).2.1 = q at *
          have hcl : (cut b q n).length = n.toNat := by unfold cut; rw [List.length_drop, List.length_take]; omega
          have hsz : (strOfNums (cut b q n)).size = n.toNat := by rw [strOfNums_size, hcl]
          have hcat : cat (strOfNums (cut b q n)) = enc (code n) ++ cut b q n := by
            unfold cat
            rw [hsz, bytes_str (l := cut b q n) ((hb.take _).drop _), show ((n.toNat : Nat) : Int) = n from by omega]
          have hlen : (cat (strOfNums (cut b q n))).length = (enc (code n)).length + n.toNat := by rw [hcat, List.length_append, hcl]
          refine ⟨g1, by omega, by omega, by rw [hsz]; omega, by rw [hlen]; omega, ?_⟩
          rw [hlen, hcat, List.take_add, g7]
          congr 1
          rw [List.drop_drop]
          unfold cut
          rw [List.drop_take]
          congr 1
          · omega
          · congr 1; omega
  · rw [if_neg h0] at h
    simp only [Prod.mk.injEq] at h
    exact absurd h.2.2 h0
theorem rText_at (l : List Int) (s : ByteArray) (r : List Int) (lim : Int) (hs : (s.size : Int) ≤ lim) (hsz : s.size ≤ 35184372088832) : rText (l ++ (cat s ++ r)) (l.length : Int) lim = (s, (l.length : Int) + ((cat s).length : Int), 0) := by
  have e : l ++ (cat s ++ r) = l ++ (enc (code (s.size : Int)) ++ (bytesOf s ++ r)) := by unfold cat; rw [List.append_assoc]
  unfold rText
  rw [e, rNum_at l (s.size : Int) (bytesOf s ++ r) (by omega) (by omega)]
  dsimp only
  have hb := bytesOf_length s
  rw [if_pos rfl, if_neg (by omega), if_neg (by omega), if_neg (by simp only [List.length_append]; omega)]
  have hc : cut (l ++ (enc (code (s.size : Int)) ++ (bytesOf s ++ r))) ((l.length : Int) + ((enc (code (s.size : Int))).length : Int)) (s.size : Int) = bytesOf s := by
    unfold cut
    rw [show ((l.length : Int) + ((enc (code (s.size : Int))).length : Int) + (s.size : Int)).toNat = l.length + ((enc (code (s.size : Int))).length + s.size) from by omega, show ((l.length : Int) + ((enc (code (s.size : Int))).length : Int)).toNat = l.length + (enc (code (s.size : Int))).length from by omega]
    rw [List.take_append, List.drop_append, List.take_of_length_le (by omega), List.drop_of_length_le (by omega), List.nil_append, Nat.add_sub_cancel_left, Nat.add_sub_cancel_left]
    rw [List.take_append, List.drop_append, List.take_of_length_le (by omega), List.drop_of_length_le (by omega), List.nil_append, Nat.add_sub_cancel_left, Nat.sub_self, List.drop_zero, ← hb, List.take_left]
  rw [hc, str_bytes, cat_len]
  simp only [Prod.mk.injEq, true_and, and_true]
  push_cast; omega
theorem rText_torn (s : ByteArray) (m : Nat) (lim : Int) (hs : (s.size : Int) ≤ lim) (hsz : s.size ≤ 35184372088832) (hm : m < (cat s).length) : rText ((cat s).take m) 0 lim = (E0, 0, 3) := by
  rw [cat_len] at hm
  by_cases h : m < (enc (code (s.size : Int))).length
  · have e : (cat s).take m = (enc (code (s.size : Int))).take m := by unfold cat; rw [List.take_append_of_le_length (by omega)]
    unfold rText
    rw [e, rNum_torn (s.size : Int) m (by omega) (by omega) h]
    rfl
  · have e : (cat s).take m = [] ++ (enc (code (s.size : Int)) ++ (bytesOf s).take (m - (enc (code (s.size : Int))).length)) := by unfold cat; rw [List.take_append, List.take_of_length_le (by omega)]; rfl
    have h2 := rNum_at [] (s.size : Int) ((bytesOf s).take (m - (enc (code (s.size : Int))).length)) (by omega) (by omega)
    unfold rText
    rw [e]
    simp only [List.length_nil] at h2
    rw [show ((0 : Nat) : Int) = 0 from rfl] at h2
    rw [h2]
    dsimp only
    have hb := bytesOf_length s
    rw [if_pos rfl, if_neg (by omega), if_neg (by omega), if_pos (by simp only [List.length_append, List.length_take, List.length_nil]; omega)]
end Go.Proofs.Ytkklehfcadkikaa.Sp
