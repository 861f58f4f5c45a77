/- What the functions of package pack, and of its reference, compute: the encoding and the decoding of numbers. -/
import Derived.Test.YtkklehfcadkikaaSb
import Derived.Test.YtkklehfcadkikaaJpack0
import Derived.Test.YtkklehfcadkikaaJref031
import Derived.Test.YtkklehfcadkikaaJref032
set_option linter.unusedVariables false
set_option linter.unusedSimpArgs false
namespace Go.Proofs.Ytkklehfcadkikaa.Sp
open Go.RowKit Go.Proofs.YtkklehfcadkikaaW.PrintWords Go.Proofs.YtkklehfcadkikaaW.PrintLast Go.Proofs.YtkklehfcadkikaaW.PrintMore Go.Proofs.Ytkklehfcadkikaa.J

theorem Ev.pos {α : Type} {c : Prop} [Decidable c] {a b : Nat → Option α} {r : α} (h : c) (e : Ev a r) : Ev (fun k => if c then a k else b k) r := Ev.congr (fun k => if_pos h) e
theorem Ev.neg {α : Type} {c : Prop} [Decidable c] {a b : Nat → Option α} {r : α} (h : ¬ c) (e : Ev b r) : Ev (fun k => if c then a k else b k) r := Ev.congr (fun k => if_neg h) e
theorem Ev.eq {α : Type} {g : Nat → Option α} {r : α} (h : ∀ k, g k = some r) : Ev g r := ⟨0, fun k _ => h k⟩
theorem Ev.get {α β : Type} {o : Option α} {x : α} {f : Nat → α → Option β} {r : β} (h : o = some x) (e : Ev (fun k => f k x) r) : Ev (fun k => o.bind (f k)) r := by subst h; exact e
theorem wrap64_in {n : Int} (h0 : -9223372036854775808 ≤ n) (h1 : n ≤ 9223372036854775807) : wrap64 n = n := by unfold wrap64; omega
theorem u64w {n : Int} (h0 : 0 ≤ n) (h1 : n < 18446744073709551616) : IntKind.u64.wrap n = n := by rw [wrap_u64]; omega
theorem tmod_nn {a b : Int} (h : 0 ≤ a) : Int.tmod a b = a % b := Int.tmod_eq_emod_of_nonneg h
theorem tdiv_nn {a b : Int} (h : 0 ≤ a) : Int.tdiv a b = a / b := Int.tdiv_eq_ediv_of_nonneg h

theorem pack_code_eq (n : Int) (h0 : -9223372036854775808 ≤ n) (h1 : n ≤ 9223372036854775807) : pack_code.f n = some ((code n : Nat) : Int) := by
  unfold pack_code.f
  rw [wrap_u64, wrap_u64, wrap_u64]
  by_cases h : 0 ≤ n
  · have e1 : n / 9223372036854775808 = 0 := by omega
    have e2 : (0 : Int) % 18446744073709551616 = 0 := rfl
    rw [e1, e2, u64_xor0 _ (by omega) (by omega)]
    congr 1; unfold code; rw [if_pos h]; omega
  · have e1 : n / 9223372036854775808 = -1 := by omega
    have e2 : (-1 : Int) % 18446744073709551616 = 18446744073709551615 := rfl
    rw [e1, e2, u64_xor1 _ (by omega) (by omega)]
    congr 1; unfold code; rw [if_neg h]; omega
theorem add_step {c : Nat} (h : 128 ≤ c) (hc : c < 2 ^ 64) : Go.bits .or .u8 ((Go.bits .and .u64 (c : Int) 127) % 256) 128 = ((c % 128 + 128 : Nat) : Int) := by
  rw [u64_and127 _ (by omega) (by omega), u8_or_128 _ (by omega) (by omega)]; omega
theorem pack_add_l0 (c : Nat) : c < 2 ^ 64 → ∀ l : List Int, l.length + (enc c).length ≤ 140737488355328 → Ev (fun k => pack_add.l0 k l (c : Int)) (l ++ enc c) := by
  induction c using Nat.strongRecOn with
  | _ c ih =>
    intro hc l hl
    have hp := enc_pos c
    by_cases h : c < 128
    · rw [enc_small h] at hl ⊢
      simp at hl
      refine Ev.step (f := fun _ => some (l ++ [(c : Int)])) (fun k => ?_) (Ev.now _)
      simp only [pack_add.l0]
      rw [if_neg (by omega), if_pos (by omega), show (c : Int) % 256 = c from by omega]
    · rw [enc_big h] at hl ⊢
      simp at hl
      have h2 := ih (c / 128) (by omega) (by omega) (l ++ [((c % 128 + 128 : Nat) : Int)]) (by simp; omega)
      rw [List.append_assoc] at h2
      refine Ev.step (fun k => ?_) h2
      simp only [pack_add.l0]
      rw [if_pos (by omega), if_pos (by omega), add_step (by omega) hc, show (c : Int) / 128 = ((c / 128 : Nat) : Int) from by omega]
theorem pack_add_ev (l : List Int) (n : Int) (h0 : -9223372036854775808 ≤ n) (h1 : n ≤ 9223372036854775807) (hl : l.length ≤ 140737488355318) : Ev (fun k => pack_add.f k l n) (l ++ enc (code n)) := by
  unfold pack_add.f
  refine Ev.get (pack_code_eq n h0 h1) (pack_add_l0 _ (code_lt h0 h1) l ?_)
  have := enc_len10 (code_lt h0 h1)
  omega
theorem pack_owned_eq (l : List Int) (n : Int) (h0 : 0 ≤ n) (h1 : (l.length : Int) + n ≤ 140737488355328) : pack_owned.f l n = some l := by unfold pack_owned.f; rw [if_pos h0, if_pos h1]
theorem pack_PutNum_ev (l : List Int) (n : Int) (h0 : -9223372036854775808 ≤ n) (h1 : n ≤ 9223372036854775807) (hl : l.length ≤ 140737488355318) : Ev (fun k => pack_PutNum.f k l n) (l ++ enc (code n)) := by
  unfold pack_PutNum.f
  refine Ev.get (pack_owned_eq l 10 (by omega) (by omega)) (Ev.bind (pack_add_ev l n h0 h1 hl) (Ev.now _))

theorem ref_code_eq (n : Int) (h0 : -9223372036854775808 ≤ n) (h1 : n ≤ 9223372036854775807) : brokerref03_code.f n = some ((code n : Nat) : Int) := by
  unfold brokerref03_code.f
  by_cases h : 0 ≤ n
  · rw [if_pos h, u64w (n := n) (by omega) (by omega), u64w (by omega) (by omega)]
    congr 1; unfold code; rw [if_pos h]; omega
  · rw [if_neg h, wrap64_in (n := n + 1) (by omega) (by omega), wrap64_in (by omega) (by omega), u64w (n := -(n + 1)) (by omega) (by omega), u64w (n := -(n + 1) * 2) (by omega) (by omega), u64w (by omega) (by omega)]
    congr 1; unfold code; rw [if_neg h]; omega
theorem ref_PutNum_l0 (c : Nat) : c < 2 ^ 64 → ∀ l : List Int, l.length + (enc c).length ≤ 140737488355328 → Ev (fun k => brokerref03_PutNum.l0 k l (c : Int)) (l ++ enc c) := by
  induction c using Nat.strongRecOn with
  | _ c ih =>
    intro hc l hl
    have hp := enc_pos c
    by_cases h : c < 128
    · rw [enc_small h] at hl ⊢
      simp at hl
      refine Ev.step (f := fun _ => some (l ++ [(c : Int)])) (fun k => ?_) (Ev.now _)
      simp only [brokerref03_PutNum.l0]
      rw [if_neg (by omega), if_pos (by omega), show (c : Int) % 256 = c from by omega]
    · rw [enc_big h] at hl ⊢
      simp at hl
      have h2 := ih (c / 128) (by omega) (by omega) (l ++ [((c % 128 + 128 : Nat) : Int)]) (by simp; omega)
      rw [List.append_assoc] at h2
      refine Ev.step (fun k => ?_) h2
      simp only [brokerref03_PutNum.l0]
      rw [if_pos (by omega), if_pos (by omega), tmod_nn (by omega), tdiv_nn (by omega), u64w (by omega) (by omega), show ((c : Int) % 128 + 128) % 256 = ((c % 128 + 128 : Nat) : Int) from by omega, show (c : Int) / 128 = ((c / 128 : Nat) : Int) from by omega]
theorem ref_PutNum_ev (l : List Int) (n : Int) (h0 : -9223372036854775808 ≤ n) (h1 : n ≤ 9223372036854775807) (hl : l.length ≤ 140737488355318) : Ev (fun k => brokerref03_PutNum.f k l n) (l ++ enc (code n)) := by
  unfold brokerref03_PutNum.f
  have := enc_len10 (code_lt h0 h1)
  refine Ev.get (x := ([] : List Int)) rfl (Ev.pos (by simp; omega) (Ev.get (ref_code_eq n h0 h1) ?_))
  rw [List.nil_append]
  exact ref_PutNum_l0 _ (code_lt h0 h1) l (by omega)

/-! ### decoding -/
def rNum (b : List Int) (p : Int) : Int × Int × Int :=
  if p < 0 ∨ p > (b.length : Int) then (0, 0, 1) else
    match dec (b.drop p.toNat) 0 0 with
    | .trunc => (0, 0, 3)
    | .syn => (0, 0, 2)
    | .ok c k => (num c, p + k, 0)
def fin (p : Int) : Dec → Int × Int × Int
  | .trunc => (0, 0, 3)
  | .syn => (0, 0, 2)
  | .ok c k => (num c, p + k, 0)
theorem rNum_in {b : List Int} {p : Int} (h0 : 0 ≤ p) (h1 : p ≤ (b.length : Int)) : rNum b p = fin p (dec (b.drop p.toNat) 0 0) := by
  unfold rNum; rw [if_neg (by omega)]; cases dec (b.drop p.toNat) 0 0 <;> rfl
theorem rNum_out {b : List Int} {p : Int} (h : p < 0 ∨ p > (b.length : Int)) : rNum b p = (0, 0, 1) := by unfold rNum; rw [if_pos h]
theorem pack_number_eq (c : Nat) (h : c < 2 ^ 64) : pack_number.f (c : Int) = some (num c) := by
  unfold pack_number.f
  rw [u64_and1 _ (by omega) (by omega)]
  by_cases h2 : c % 2 = 0
  · rw [if_neg (by omega), wrap64_in (by omega) (by omega)]
    congr 1; unfold num; rw [if_pos h2]; omega
  · rw [if_pos (by omega), wrap64_in (n := (c : Int) / 2) (by omega) (by omega), wrap64_in (n := -((c : Int) / 2)) (by omega) (by omega), wrap64_in (by omega) (by omega)]
    congr 1; unfold num; rw [if_neg h2]; omega
theorem ref_number_eq (c : Nat) (h : c < 2 ^ 64) : brokerref03_number.f (c : Int) = some (num c) := by
  unfold brokerref03_number.f
  rw [tmod_nn (by omega), tdiv_nn (by omega), u64w (n := (c : Int) / 2) (by omega) (by omega)]
  by_cases h2 : c % 2 = 0
  · rw [if_pos (by omega), wrap64_in (by omega) (by omega)]
    congr 1; unfold num; rw [if_pos h2]; omega
  · rw [if_neg (by omega), wrap64_in (n := (c : Int) / 2) (by omega) (by omega), wrap64_in (n := -((c : Int) / 2)) (by omega) (by omega), wrap64_in (by omega) (by omega)]
    congr 1; unfold num; rw [if_neg h2]; omega
theorem drop_rd {b : List Int} {q : Nat} (h : q < b.length) : b.drop q = rd b (q : Int) :: b.drop (q + 1) := by
  rw [List.drop_eq_getElem_cons h]
  simp [rd, List.getD_eq_getElem?_getD, List.getElem?_eq_getElem h]
theorem rd_byt {b : List Int} (hb : Byt b) {q : Nat} (h : q < b.length) : 0 ≤ rd b (q : Int) ∧ rd b (q : Int) ≤ 255 := by
  apply hb
  have := drop_rd h
  have h2 : rd b (q : Int) ∈ b.drop q := by rw [this]; simp
  exact List.mem_of_mem_drop h2
theorem pow_le {i : Nat} (h : i ≤ 8) : (128 : Nat) ^ i ≤ 72057594037927936 := Nat.le_trans (Nat.pow_le_pow_right (by decide) h) (by decide)
theorem two_pow7 (i : Nat) : (2 : Nat) ^ (7 * i) = 128 ^ i := by rw [Nat.pow_mul]
/-- A group of seven bits, set at its place. -/
theorem group {i c x : Nat} (hi : i ≤ 9) (hc : c < 128 ^ i) (hx : x ≤ 255) (h9 : i = 9 → x ≤ 1) :
    Go.bits .or .u64 (c : Int) (shl .u64 (IntKind.u64.wrap (Go.bits .and .u8 (x : Int) 127)) (wrap64 (7 * (i : Int)))) = ((c + x % 128 * 128 ^ i : Nat) : Int) ∧ c + x % 128 * 128 ^ i < 2 ^ 64 := by
  have hb : x % 128 * 128 ^ i < 2 ^ 64 := by
    by_cases h : i = 9
    · subst h; have := h9 rfl; rw [pow128_9]; omega
    · have h8 := pow_le (i := i) (by omega)
      have : x % 128 * 128 ^ i ≤ 127 * 72057594037927936 := Nat.mul_le_mul (by omega) h8
      omega
  have hsum : c + x % 128 * 128 ^ i < 2 ^ 64 := by
    by_cases h : i = 9
    · subst h; have := h9 rfl; rw [pow128_9] at *; omega
    · have h8 := pow_le (i := i) (by omega)
      have : x % 128 * 128 ^ i ≤ 127 * 72057594037927936 := Nat.mul_le_mul (by omega) h8
      omega
  refine ⟨?_, hsum⟩
  have e1 : Go.bits .and .u8 (x : Int) 127 = ((x % 128 : Nat) : Int) := by rw [u8_and127 _ (by omega) (by omega)]; omega
  rw [e1, u64w (by omega) (by omega), wrap64_in (by omega) (by omega)]
  unfold shl
  have e2 : (7 * (i : Int)).toNat = 7 * i := by omega
  have e3 : min (7 * i) IntKind.u64.bits = 7 * i := by simp [IntKind.bits]; omega
  rw [e2, e3]
  have e4 : ((x % 128 : Nat) : Int) * 2 ^ (7 * i) = ((x % 128 * 128 ^ i : Nat) : Int) := by
    rw [← two_pow7 i]; push_cast; rfl
  rw [e4, u64w (by omega) (by omega)]
  have e5 : (((x % 128 * 128 ^ i : Nat) : Int)) % 2 ^ (7 * i) = 0 := by
    have : (2 : Int) ^ (7 * i) = ((128 ^ i : Nat) : Int) := by rw [← two_pow7 i]; push_cast; rfl
    rw [this]
    have h1 : (x % 128 * 128 ^ i) % 128 ^ i = 0 := Nat.mul_mod_left _ _
    exact_mod_cast h1
  rw [u64_or_join (7 * i) (c : Int) _ (by omega) (by omega) (by have : (2 : Int) ^ (7 * i) = ((128 ^ i : Nat) : Int) := by { rw [← two_pow7 i]; push_cast; rfl }
                                                                rw [this]; exact_mod_cast hc) (by omega) e5 (by exact_mod_cast hb)]
  push_cast; rfl
theorem next_lt {i c x : Nat} (hc : c < 128 ^ i) : c + x % 128 * 128 ^ i < 128 ^ (i + 1) := by
  have h1 : (x % 128 + 1) * 128 ^ i ≤ 128 * 128 ^ i := Nat.mul_le_mul_right _ (by omega)
  rw [Nat.pow_succ, Nat.mul_comm (128 ^ i)]
  rw [Nat.add_mul] at h1
  omega
theorem pack_Num_l0 (b : List Int) (hb : Byt b) (hlen : b.length ≤ 4611686018427387904) (p : Nat) : ∀ (d i c : Nat), i + d = 10 → p + i ≤ b.length → c < 128 ^ i → i ≤ 9 → Ev (fun k => pack_Num.l0 k b (p : Int) (c : Int) (i : Int)) (fin p (dec (b.drop (p + i)) i c)) := by
  intro d
  induction d with
  | zero => intro i c h _ _ h9; omega
  | succ d ih =>
    intro i c hd hp hc hi
    have hw : wrap64 ((p : Int) + (i : Int)) = ((p + i : Nat) : Int) := by rw [wrap64_in (by omega) (by omega)]; omega
    by_cases he : p + i = b.length
    · refine Ev.step (f := fun _ => some (0, 0, 3)) (fun k => ?_) ?_
      · simp only [pack_Num.l0]; rw [hw, if_pos (by omega)]
      · rw [he, List.drop_length]; exact Ev.now _
    · have hlt : p + i < b.length := by omega
      have hx := rd_byt hb hlt
      obtain ⟨x, hxe⟩ := Int.eq_ofNat_of_zero_le hx.1
      have hx255 : x ≤ 255 := by omega
      rw [drop_rd hlt, hxe]
      by_cases hs : (i = 9 ∧ 1 < ((x : Nat) : Int)) ∨ (0 < i ∧ ((x : Nat) : Int) = 0)
      · rw [dec_syn hs]
        refine Ev.step (f := fun k => pack_Num.j2 k b (p : Int) (c : Int) (i : Int) (x : Int) true) (fun k => ?_) ?_
        · simp only [pack_Num.l0]
          rw [hw, hxe, if_neg (by omega), if_pos (by omega), if_pos (by omega)]
          by_cases h9 : (i : Int) = 9
          · rw [if_pos h9]
            by_cases h1 : ((x : Nat) : Int) > 1
            · rw [if_pos h1]
            · rw [if_neg h1, if_pos (by omega), show (((x : Nat) : Int) == 0) = true from by rw [beq_iff_eq]; omega]
          · rw [if_neg h9, if_pos (by omega), show (((x : Nat) : Int) == 0) = true from by rw [beq_iff_eq]; omega]
        · refine Ev.step (f := fun _ => some (0, 0, 2)) (fun k => ?_) (Ev.now _)
          simp only [pack_Num.j2, if_true]
      · obtain ⟨hg, hglt⟩ := group (c := c) hi hc hx255 (fun h => by omega)
        refine Ev.step (f := fun k => pack_Num.j2 k b (p : Int) (c : Int) (i : Int) (x : Int) false) (fun k => ?_) ?_
        · simp only [pack_Num.l0]
          rw [hw, hxe, if_neg (by omega), if_pos (by omega), if_pos (by omega)]
          by_cases h9 : (i : Int) = 9
          · rw [if_pos h9, if_neg (by omega), if_pos (by omega), show (((x : Nat) : Int) == 0) = false from by rw [beq_eq_false_iff_ne]; omega]
          · rw [if_neg h9]
            by_cases h0 : (i : Int) > 0
            · rw [if_pos h0, show (((x : Nat) : Int) == 0) = false from by rw [beq_eq_false_iff_ne]; omega]
            · rw [if_neg h0]
        · by_cases hlt128 : ((x : Nat) : Int) < 128
          · rw [dec_ok hs hlt128]
            have e1 : (x : Int).toNat = x % 128 := by omega
            refine Ev.step (f := fun _ => some (num (c + x % 128 * 128 ^ i), (p : Int) + ((i + 1 : Nat) : Int), 0)) (fun k => ?_) ?_
            · simp only [pack_Num.j2]
              rw [if_neg (by simp), if_pos (by rw [wrap64_in (by omega) (by omega)]; omega), if_pos hlt128, hg, pack_number_eq _ hglt, hw]
              simp only [Option.bind_some]
              rw [wrap64_in (by omega) (by omega)]
              congr 3
            · show Ev _ (num (c + (x : Int).toNat * 128 ^ i), (p : Int) + ((i + 1 : Nat) : Int), 0)
              rw [e1]; exact Ev.now _
          · rw [dec_more hs hlt128]
            have e1 : (x : Int).toNat - 128 = x % 128 := by omega
            have hi9 : i ≠ 9 := by omega
            have h2 := ih (i + 1) (c + x % 128 * 128 ^ i) (by omega) (by omega) (next_lt hc) (by omega)
            rw [e1]
            refine Ev.step (fun k => ?_) h2
            simp only [pack_Num.j2]
            rw [if_neg (by simp), if_pos (by rw [wrap64_in (by omega) (by omega)]; omega), if_neg hlt128, hg, wrap64_in (by omega) (by omega)]
            rfl
theorem pack_Num_ev (b : List Int) (hb : Byt b) (hlen : b.length ≤ 4611686018427387904) (p : Int) : Ev (fun k => pack_Num.f k b p) (rNum b p) := by
  unfold pack_Num.f
  by_cases h0 : p < 0
  · rw [rNum_out (.inl h0)]
    refine Ev.pos h0 (Ev.step (f := fun _ => some (0, 0, 1)) (fun k => ?_) (Ev.now _))
    simp only [pack_Num.j0, if_true]
  · refine Ev.neg h0 ?_
    by_cases h1 : p > (b.length : Int)
    · rw [rNum_out (.inr h1), show decide (p > (b.length : Int)) = true from decide_eq_true h1]
      refine Ev.step (f := fun _ => some (0, 0, 1)) (fun k => ?_) (Ev.now _)
      simp only [pack_Num.j0, if_true]
    · rw [show decide (p > (b.length : Int)) = false from decide_eq_false h1]
      obtain ⟨q, rfl⟩ := Int.eq_ofNat_of_zero_le (by omega : 0 ≤ p)
      rw [rNum_in (by omega) (by omega)]
      refine Ev.step (fun k => ?_) (pack_Num_l0 b hb hlen q 10 0 0 rfl (by omega) (by decide) (by omega))
      simp only [pack_Num.j0]
      rw [if_neg (by simp)]
      rfl
end Go.Proofs.Ytkklehfcadkikaa.Sp
