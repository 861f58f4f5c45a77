/- What the functions of package frame, and of its reference, compute: checksums, frames, reading a frame. -/
import Derived.Test.YtkklehfcadkikaaSd
import Derived.Test.YtkklehfcadkikaaJframe0
import Derived.Test.YtkklehfcadkikaaJref040
import Derived.Test.YtkklehfcadkikaaJref041
import Derived.Test.YtkklehfcadkikaaJref042
import Derived.Test.YtkklehfcadkikaaJref043
set_option linter.unusedVariables false
set_option linter.unusedSimpArgs false
namespace Go.Proofs.Ytkklehfcadkikaa.Sp
open Go.RowKit Go.Proofs.YtkklehfcadkikaaW.PrintWords Go.Proofs.YtkklehfcadkikaaW.PrintLast Go.Proofs.YtkklehfcadkikaaW.PrintMore Go.Proofs.Ytkklehfcadkikaa.J

def stp (s x : Nat) : Nat := ((s ^^^ x) * 16777619) % 4294967296
def fnv : Nat → List Int → Nat
  | s, [] => s
  | s, x :: r => fnv (stp s x.toNat) r
def sum (l : List Int) : Nat := fnv 2166136261 l
theorem stp_lt (s x : Nat) : stp s x < 4294967296 := Nat.mod_lt _ (by decide)
theorem fnv_lt : ∀ (l : List Int) (s : Nat), s < 4294967296 → fnv s l < 4294967296
  | [], s, h => h
  | x :: r, s, h => fnv_lt r _ (stp_lt _ _)
theorem sum_lt (l : List Int) : sum l < 4294967296 := fnv_lt l _ (by decide)
theorem fnv_append : ∀ (a b : List Int) (s : Nat), fnv s (a ++ b) = fnv (fnv s a) b
  | [], b, s => rfl
  | x :: a, b, s => fnv_append a b _
theorem xor_lt {s x : Nat} (hs : s < 4294967296) (hx : x < 4294967296) : s ^^^ x < 4294967296 := Nat.xor_lt_two_pow (n := 32) hs hx
theorem frame_step {s x : Nat} (hs : s < 4294967296) (hx : x ≤ 255) : (Go.bits .xor .u32 (s : Int) ((x : Int) % 4294967296) * 16777619) % 4294967296 = ((stp s x : Nat) : Int) := by
  have e : (x : Int) % 4294967296 = (x : Int) := by omega
  rw [e, bits_xor_nat .u32 32 (by decide) wraps_u32 s x (by omega) (by omega)]
  unfold stp
  generalize s ^^^ x = y
  omega
theorem frame_Sum_l0 (b : List Int) (hb : Byt b) (hlen : b.length ≤ 4611686018427387904) : ∀ (d i s : Nat), i + d = b.length → s < 4294967296 → Ev (fun k => frame_Sum.l0 k (s : Int) b (b.length : Int) (i : Int)) ((fnv s (b.drop i) : Nat) : Int) := by
  intro d
  induction d with
  | zero =>
    intro i s hi hs
    refine Ev.step (f := fun _ => some (s : Int)) (fun k => ?_) ?_
    · simp only [frame_Sum.l0]; rw [if_neg (by omega), wrap64_in (by omega) (by omega)]
    · rw [List.drop_of_length_le (by omega)]; exact Ev.now _
  | succ d ih =>
    intro i s hi hs
    have hx := rd_byt hb (q := i) (by omega)
    obtain ⟨x, hxe⟩ := Int.eq_ofNat_of_zero_le hx.1
    have h2 := ih (i + 1) (stp s x) (by omega) (stp_lt _ _)
    rw [drop_rd (by omega), hxe]
    refine Ev.step (fun k => ?_) h2
    simp only [frame_Sum.l0]
    rw [if_pos (by omega), if_pos (by omega), if_pos (by omega), hxe, frame_step hs (by omega), wrap64_in (by omega) (by omega)]
    rfl
theorem frame_Sum_ev (b : List Int) (hb : Byt b) (hlen : b.length ≤ 4611686018427387904) : Ev (fun k => frame_Sum.f k b) ((sum b : Nat) : Int) := by
  unfold frame_Sum.f
  exact frame_Sum_l0 b hb hlen b.length 0 2166136261 (by omega) (by decide)
theorem ref4_step {s x : Nat} (hs : s < 4294967296) (hx : x ≤ 255) : Int.tmod (IntKind.u64.wrap (Go.bits .xor .u64 (s : Int) (IntKind.u64.wrap (x : Int)) * 16777619)) 4294967296 = ((stp s x : Nat) : Int) := by
  have h := xor_lt hs (x := x) (by omega)
  rw [u64w (n := (x : Int)) (by omega) (by omega), bits_xor_nat .u64 64 (by decide) wraps_u64 s x (by omega) (by omega), u64w (by omega) (by omega), tmod_nn (by omega)]
  unfold stp
  generalize s ^^^ x = y at *
  omega
theorem ref4_Sum_l0 (b : List Int) (hb : Byt b) (hlen : b.length ≤ 4611686018427387904) : ∀ (d i s : Nat), i + d = b.length → s < 4294967296 → Ev (fun k => brokerref04_Sum.l0 k b (s : Int) (i : Int)) ((fnv s (b.drop i) : Nat) : Int) := by
  intro d
  induction d with
  | zero =>
    intro i s hi hs
    refine Ev.step (f := fun _ => some (s : Int)) (fun k => ?_) ?_
    · simp only [brokerref04_Sum.l0]; rw [if_neg (by omega), wrap64_in (by omega) (by omega)]
    · rw [List.drop_of_length_le (by omega)]; exact Ev.now _
  | succ d ih =>
    intro i s hi hs
    have hx := rd_byt hb (q := i) (by omega)
    obtain ⟨x, hxe⟩ := Int.eq_ofNat_of_zero_le hx.1
    have h2 := ih (i + 1) (stp s x) (by omega) (stp_lt _ _)
    rw [drop_rd (by omega), hxe]
    refine Ev.step (fun k => ?_) h2
    simp only [brokerref04_Sum.l0]
    rw [if_pos (by omega), if_pos (by omega), hxe, ref4_step hs (by omega), wrap64_in (by omega) (by omega)]
    rfl
theorem ref4_Sum_ev (b : List Int) (hb : Byt b) (hlen : b.length ≤ 4611686018427387904) : Ev (fun k => brokerref04_Sum.f k b) ((sum b : Nat) : Int) := by
  unfold brokerref04_Sum.f
  exact ref4_Sum_l0 b hb hlen b.length 0 2166136261 (by omega) (by decide)

/-! ### frames -/
def be4 (s : Nat) : List Int := [((s / 16777216 % 256 : Nat) : Int), ((s / 65536 % 256 : Nat) : Int), ((s / 256 % 256 : Nat) : Int), ((s % 256 : Nat) : Int)]
theorem be4_byt (s : Nat) : Byt (be4 s) := by
  unfold be4
  exact Byt.cons (by omega) (by omega) (Byt.cons (by omega) (by omega) (Byt.cons (by omega) (by omega) (Byt.cons (by omega) (by omega) Byt.nil)))
def wrapF (b : List Int) : List Int := enc (code (b.length : Int)) ++ (be4 (sum b) ++ b)
theorem wrapF_byt {b : List Int} (hb : Byt b) : Byt (wrapF b) := (enc_byt _).append ((be4_byt _).append hb)
theorem wrapF_len (b : List Int) : (wrapF b).length = (enc (code (b.length : Int))).length + 4 + b.length := by
  unfold wrapF; simp only [List.length_append]; simp [be4]; omega
theorem be4_impl {s : Nat} (h : s < 4294967296) : [((s : Int) / 16777216) % 256, ((s : Int) / 65536) % 256, ((s : Int) / 256) % 256, (s : Int) % 256] = be4 s := by
  unfold be4; simp only [List.cons.injEq, and_true]; omega
theorem be4_ref {s : Nat} (h : s < 4294967296) : [((s : Int) / 16777216) % 256, (Go.bits .and .i64 ((s : Int) / 65536) 255) % 256, (Go.bits .and .i64 ((s : Int) / 256) 255) % 256, (Go.bits .and .i64 (s : Int) 255) % 256] = be4 s := by
  rw [i64_and255 _ (by omega) (by omega), i64_and255 _ (by omega) (by omega), i64_and255 _ (by omega) (by omega)]
  unfold be4; simp only [List.cons.injEq, and_true]; omega
theorem frame_Wrap_ev (b : List Int) (hb : Byt b) (hlen : b.length ≤ 65536) : Ev (fun k => frame_Wrap.f k b) (wrapF b) := by
  unfold frame_Wrap.f
  have e1 := enc_len10 (code_lt (n := (b.length : Int)) (by omega) (by omega))
  refine Ev.neg (by omega) (Ev.bind (frame_Sum_ev b hb (by omega)) (Ev.bind (pack_PutNum_ev [] _ (by omega) (by omega) (by simp)) ?_))
  rw [be4_impl (sum_lt b)]
  refine Ev.get rfl (Ev.pos ?_ (Ev.get rfl (Ev.pos ?_ ?_)))
  · simp [be4]; omega
  · simp [be4]; omega
  · rw [List.nil_append, List.append_assoc]; exact Ev.now _
theorem ref4_Wrap_ev (b : List Int) (hb : Byt b) (hlen : b.length ≤ 65536) : Ev (fun k => brokerref04_Wrap.f k b) (wrapF b) := by
  unfold brokerref04_Wrap.f
  have e1 := enc_len10 (code_lt (n := (b.length : Int)) (by omega) (by omega))
  refine Ev.neg (by omega) (Ev.bind (ref4_Sum_ev b hb (by omega)) (Ev.bind (ref_PutNum_ev [] _ (by omega) (by omega) (by simp)) ?_))
  rw [be4_ref (sum_lt b)]
  refine Ev.get rfl (Ev.pos ?_ (Ev.get rfl (Ev.pos ?_ ?_)))
  · simp [be4]; omega
  · simp [be4]; omega
  · rw [List.nil_append, List.append_assoc]; exact Ev.now _
def sizeF (n : Int) : Int := if n < 0 ∨ n > 65536 then 0 else ((enc (code n)).length : Int) + 4 + n
theorem frame_Size_ev (n : Int) : Ev (fun k => frame_Size.f k n) (sizeF n) := by
  unfold frame_Size.f sizeF
  by_cases h0 : n < 0
  · rw [if_pos (.inl h0)]; exact Ev.pos h0 (Ev.now _)
  · by_cases h1 : n > 65536
    · rw [if_pos (.inr h1)]; exact Ev.neg h0 (Ev.pos h1 (Ev.now _))
    · rw [if_neg (by omega)]
      have e1 := enc_len10 (code_lt (n := n) (by omega) (by omega))
      refine Ev.neg h0 (Ev.neg h1 (Ev.bind (pack_PutNum_ev [] n (by omega) (by omega) (by simp)) ?_))
      rw [List.nil_append, wrap64_in (n := ((enc (code n)).length : Int) + 4) (by omega) (by omega), wrap64_in (by omega) (by omega)]
      exact Ev.now _
theorem ref4_Size_ev (n : Int) : Ev (fun k => brokerref04_Size.f k n) (sizeF n) := by
  unfold brokerref04_Size.f sizeF
  by_cases h0 : n < 0
  · rw [if_pos (.inl h0)]; exact Ev.pos h0 (Ev.now _)
  · by_cases h1 : n > 65536
    · rw [if_pos (.inr h1)]; exact Ev.neg h0 (Ev.pos h1 (Ev.now _))
    · rw [if_neg (by omega)]
      have e1 := enc_len10 (code_lt (n := n) (by omega) (by omega))
      refine Ev.neg h0 (Ev.neg h1 (Ev.bind (ref_PutNum_ev [] n (by omega) (by omega) (by simp)) ?_))
      rw [List.nil_append, wrap64_in (n := ((enc (code n)).length : Int) + 4) (by omega) (by omega), wrap64_in (by omega) (by omega)]
      exact Ev.now _
theorem sizeF_len (b : List Int) (h : b.length ≤ 65536) : sizeF (b.length : Int) = ((wrapF b).length : Int) := by
  unfold sizeF; rw [if_neg (by omega), wrapF_len]; omega

/-! ### reading a frame -/
def pay (b : List Int) (q n : Int) : List Int := cut b (q + 4) n
def rNext (b : List Int) (p : Int) : List Int × Int × Int :=
  if (rNum b p).2.2 = 0 then
    if (rNum b p).1 < 0 then ([], 0, 2) else if (rNum b p).1 > 65536 then ([], 0, 5) else if (b.length : Int) - (rNum b p).2.1 < 4 + (rNum b p).1 then ([], 0, 3)
    else if cut b (rNum b p).2.1 4 = be4 (sum (pay b (rNum b p).2.1 (rNum b p).1)) then (pay b (rNum b p).2.1 (rNum b p).1, (rNum b p).2.1 + 4 + (rNum b p).1, 0) else ([], 0, 4)
  else ([], 0, (rNum b p).2.2)
theorem cut_length {b : List Int} {q n : Int} (h0 : 0 ≤ q) (h1 : 0 ≤ n) (h2 : q + n ≤ (b.length : Int)) : (cut b q n).length = n.toNat := by
  unfold cut; rw [List.length_drop, List.length_take]; omega
theorem cut_byt {b : List Int} (hb : Byt b) (q n : Int) : Byt (cut b q n) := (hb.take _).drop _
theorem be4_iff {c : List Int} (hc : Byt c) (hl : c.length = 4) {s : Nat} (hs : s < 4294967296) :
    (Go.bits .or .i64 (Go.bits .or .i64 (Go.bits .or .i64 (wrap64 ((wrap64 (rd c 0)) * 16777216)) (wrap64 ((wrap64 (rd c 1)) * 65536))) (wrap64 ((wrap64 (rd c 2)) * 256))) (wrap64 (rd c 3))) = (s : Int) ↔ c = be4 s := by
  match c, hl with
  | [a, b, d, e], _ =>
    have ha := hc a (by simp)
    have hb := hc b (by simp)
    have hd := hc d (by simp)
    have he := hc e (by simp)
    have r0 : rd [a, b, d, e] 0 = a := rfl
    have r1 : rd [a, b, d, e] 1 = b := rfl
    have r2 : rd [a, b, d, e] 2 = d := rfl
    have r3 : rd [a, b, d, e] 3 = e := rfl
    rw [r0, r1, r2, r3, wrap64_in (n := a) (by omega) (by omega), wrap64_in (n := b) (by omega) (by omega), wrap64_in (n := d) (by omega) (by omega), wrap64_in (n := e) (by omega) (by omega)]
    rw [wrap64_in (n := a * 16777216) (by omega) (by omega), wrap64_in (n := b * 65536) (by omega) (by omega), wrap64_in (n := d * 256) (by omega) (by omega)]
    rw [i64_or_join 24 (a * 16777216) (b * 65536) (by omega) (by omega) (by omega) (by omega) (by omega) (by omega), i64_or_join 16 (a * 16777216 + b * 65536) (d * 256) (by omega) (by omega) (by omega) (by omega) (by omega) (by omega), i64_or_join 8 (a * 16777216 + b * 65536 + d * 256) e (by omega) (by omega) (by omega) (by omega) (by omega) (by omega)]
    unfold be4
    simp only [List.cons.injEq, and_true]
    omega
theorem frame_Next_ev (b : List Int) (hb : Byt b) (hlen : b.length ≤ 4611686018427387) (p : Int) : Ev (fun k => frame_Next.f k b p) (rNext b p) := by
  unfold frame_Next.f rNext
  refine Ev.bind (pack_Num_ev b hb (by omega) p) ?_
  by_cases h : (rNum b p).2.2 = 0
  · obtain ⟨g1, g2, g3, g4, g5⟩ := rNum_split hb h
    simp only [if_pos h]
    by_cases h1 : (rNum b p).1 < 0
    · simp only [if_pos h1]; exact Ev.now _
    · simp only [if_neg h1]
      by_cases h2 : (rNum b p).1 > 65536
      · simp only [if_pos h2]; exact Ev.now _
      · simp only [if_neg h2]
        generalize (rNum b p).1 = n at *
        generalize (rNum b p).2.1 = q at *
        rw [wrap64_in (n := (b.length : Int) - q) (by omega) (by omega), wrap64_in (n := 4 + n) (by omega) (by omega)]
        by_cases h3 : (b.length : Int) - q < 4 + n
        · simp only [if_pos h3]; exact Ev.now _
        · rw [wrap64_in (n := q + 4) (by omega) (by omega), wrap64_in (n := q + 4 + n) (by omega) (by omega)]
          simp only [if_neg h3]
          have hp : (b.take (q + 4 + n : Int).toNat).drop (q + 4 : Int).toNat = pay b q n := rfl
          have hc : (b.take (q + 4 : Int).toNat).drop (q : Int).toNat = cut b q 4 := rfl
          have hl := cut_length (b := b) (q := q) (n := 4) (by omega) (by omega) (by omega)
          have hl2 : (pay b q n).length = n.toNat := cut_length (by omega) (by omega) (by omega)
          have hl4 : ((cut b q 4).length : Int) = 4 := by rw [hl]; rfl
          rw [hp, hc, hl4]
          refine Ev.pos (by omega) (Ev.pos (by omega) (Ev.pos (by omega) (Ev.get rfl (Ev.pos (by omega) (Ev.pos (by omega) (Ev.pos (by omega) (Ev.pos (by rw [hl2]; simp; omega) (Ev.get rfl (Ev.pos (by omega) (Ev.pos (by omega) (Ev.pos (by omega) (Ev.pos (by omega) ?_))))))))))))
          rw [List.nil_append]
          refine Ev.bind (frame_Sum_ev _ (cut_byt hb _ _) (by rw [hl2]; omega)) ?_
          have hiff := be4_iff (cut_byt hb q 4) hl (sum_lt (pay b q n))
          by_cases h4 : cut b q 4 = be4 (sum (pay b q n))
          · rw [if_pos h4]; exact Ev.pos (hiff.2 h4) (Ev.now _)
          · rw [if_neg h4]; exact Ev.neg (fun he => h4 (hiff.1 he)) (Ev.now _)
  · simp only [if_neg h]; exact Ev.now _
theorem cut_split {b : List Int} {p q n : Int} (h0 : 0 ≤ p) (h1 : p ≤ q) (h2 : 0 ≤ n) : cut b p (q - p + n) = cut b p (q - p) ++ cut b q n := by
  unfold cut
  rw [show (p + (q - p + n)).toNat = q.toNat + n.toNat from by omega, show (p + (q - p)).toNat = q.toNat from by omega, show (q + n).toNat = q.toNat + n.toNat from by omega]
  by_cases h : q.toNat ≤ b.length
  · rw [List.take_add, List.drop_append, List.length_take, List.drop_append]
    rw [show p.toNat - min q.toNat b.length = 0 from by omega]
    rw [List.drop_zero]
    congr 1
    rw [List.drop_of_length_le (l := List.take q.toNat b) (by rw [List.length_take]; omega), List.nil_append, List.length_take, show q.toNat - min q.toNat b.length = 0 from by omega, List.drop_zero]
  · rw [List.take_of_length_le (i := q.toNat) (by omega), List.take_of_length_le (by omega), List.drop_of_length_le (i := q.toNat) (by omega), List.append_nil]
theorem ref4_Next_ev (b : List Int) (hb : Byt b) (hlen : b.length ≤ 4611686018427387) (p : Int) : Ev (fun k => brokerref04_Next.f k b p) (rNext b p) := by
  unfold brokerref04_Next.f rNext
  refine Ev.bind (ref_Count_ev b hb (by omega) p 65536) ?_
  unfold rCount
  by_cases h : (rNum b p).2.2 = 0
  · obtain ⟨g1, g2, g3, g4, g5, g6, g7⟩ := rNum_ok (n := (rNum b p).1) (q := (rNum b p).2.1) hb (by rw [← h])
    simp only [if_pos h]
    by_cases h1 : (rNum b p).1 < 0
    · simp only [if_pos h1]; exact Ev.neg (by simp) (Ev.now _)
    · simp only [if_neg h1]
      by_cases h2 : (rNum b p).1 > 65536
      · simp only [if_pos h2]; exact Ev.neg (by simp) (Ev.now _)
      · simp only [if_neg h2, if_true]
        generalize (rNum b p).1 = n at *
        generalize (rNum b p).2.1 = q at *
        rw [wrap64_in (n := (b.length : Int) - q) (by omega) (by omega), wrap64_in (n := 4 + n) (by omega) (by omega)]
        by_cases h3 : (b.length : Int) - q < 4 + n
        · simp only [if_pos h3]; exact Ev.now _
        · rw [wrap64_in (n := q + 4) (by omega) (by omega), wrap64_in (n := q + 4 + n) (by omega) (by omega)]
          simp only [if_neg h3]
          have hp : (b.take (q + 4 + n : Int).toNat).drop (q + 4 : Int).toNat = pay b q n := rfl
          have hl := cut_length (b := b) (q := q) (n := 4) (by omega) (by omega) (by omega)
          have hl2 : (pay b q n).length = n.toNat := cut_length (by omega) (by omega) (by omega)
          rw [hp]
          refine Ev.get rfl (Ev.pos (by omega) (Ev.pos (by omega) (Ev.pos (by omega) (Ev.pos (by rw [hl2]; simp; omega) (Ev.get rfl ?_)))))
          rw [List.nil_append]
          refine Ev.bind (ref4_Wrap_ev _ (cut_byt hb _ _) (by rw [hl2]; omega)) (Ev.pos (by omega) (Ev.pos (by omega) ?_))
          have hw : (b.take (q + 4 + n : Int).toNat).drop p.toNat = enc (code n) ++ (cut b q 4 ++ pay b q n) := by
            have e0 : (b.take (q + 4 + n : Int).toNat).drop p.toNat = cut b p (q - p + (4 + n)) := by unfold cut; congr 2; omega
            have e1 : cut b p (q - p) = enc (code n) := by
              unfold cut
              rw [← g7, List.drop_take]; congr 1; omega
            have e2 : cut b q (4 + n) = cut b q 4 ++ pay b q n := by
              have := cut_split (b := b) (p := q) (q := q + 4) (n := n) (by omega) (by omega) (by omega)
              rw [show q + 4 - q = 4 from by omega] at this
              exact this
            rw [e0, cut_split (by omega) (by omega) (by omega), e1, e2]
          rw [hw]
          have hwf : wrapF (pay b q n) = enc (code n) ++ (be4 (sum (pay b q n)) ++ pay b q n) := by unfold wrapF; rw [hl2, show ((n.toNat : Nat) : Int) = n from by omega]
          have hbr : Byt (enc (code n) ++ (cut b q 4 ++ pay b q n)) := (enc_byt _).append ((cut_byt hb _ _).append (cut_byt hb _ _))
          by_cases h4 : cut b q 4 = be4 (sum (pay b q n))
          · rw [if_pos h4]
            exact Ev.pos (by rw [hwf, h4]) (Ev.now _)
          · rw [if_neg h4]
            refine Ev.neg (fun he => h4 ?_) (Ev.now _)
            have hq := str_inj (a := wrapF (pay b q n)) (wrapF_byt (cut_byt hb _ _)) hbr he
            rw [hwf] at hq
            have hq2 := List.append_cancel_left hq
            have hq3 := List.append_inj_left hq2 (by rw [hl]; rfl)
            exact hq3.symm
  · simp only [if_neg h]; exact Ev.now _
end Go.Proofs.Ytkklehfcadkikaa.Sp
