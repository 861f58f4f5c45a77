/- Lean functions that compute what the Go functions named below compute; each theorem '.calls': if its Lean function has an answer, the Go function returns it. -/
import Derived.Test.YtkkelbakadbbhaaYx0
import Derived.Test.YtkkelbakadbbhaaH
import Derived.Test.YtkkelbakadbbhaaYrecord0
import Derived.Test.YtkkelbakadbbhaaYrecord2
namespace Go.Proofs.Ytkkelbakadbbhaa.J
open Go.RowKit Go.Proofs.YtkkelbakadbbhaaW.PrintWords Go.Proofs.YtkkelbakadbbhaaW.PrintLast Go.Proofs.YtkkelbakadbbhaaW.PrintMore
attribute [local go_sem] max2_int min2_int max_two min_two max_three min_three max_four min_four   -- for this text's walks alone
set_option linter.unusedVariables false
set_option linter.unusedSimpArgs false

/-! ### segment_Check: function 48 -/
mutual
def segment_Check.j0 : Nat → Bool → Int → Int → List Int → Option (Int)
 | 0, _, _, _, _ => none
 | k + 1, x15, x727000, x727001, x727002 => if x15 = true then (some 1) else (if (x727002.length : Int) > 65536 then (some 5) else (segment_Check.l0 k x727000 0 x727000 x727001 x727002))
def segment_Check.l0 : Nat → Int → Int → Int → Int → List Int → Option (Int)
 | 0, _, _, _, _, _ => none
 | k + 1, x3, x4, x727000, x727001, x727002 => if x4 < (x727002.length : Int) then ((record_Decode.f k x727002 x4).bind fun bt727 => (if bt727.2.2.2.2.2 = 0 then (if bt727.1 = x3 then (segment_Check.l0 k (wrap64 (x3 + 1)) bt727.2.2.2.2.1 x727000 x727001 x727002) else (some 22)) else (some bt727.2.2.2.2.2))) else (if x727001 = x3 then (some 0) else (some 1))
end
def segment_Check.f (k : Nat) (a0_0 : Int) (a0_1 : Int) (l0_2 : List Int) : Option (Int) := if a0_0 < 0 then (segment_Check.j0 k true a0_0 a0_1 l0_2) else (segment_Check.j0 k (decide (a0_0 > 1099511627776)) a0_0 a0_1 l0_2)
theorem segment_Check.mono_l : ∀ k, (∀ y0 y1 y2 y3, LeO (segment_Check.j0 k y0 y1 y2 y3) (segment_Check.j0 (k + 1) y0 y1 y2 y3)) ∧ (∀ y0 y1 y2 y3 y4, LeO (segment_Check.l0 k y0 y1 y2 y3 y4) (segment_Check.l0 (k + 1) y0 y1 y2 y3 y4))
 | 0 => ⟨fun _ _ _ _ r h => by simp [segment_Check.j0] at h, fun _ _ _ _ _ r h => by simp [segment_Check.l0] at h⟩
 | k + 1 => by
  obtain ⟨ih0, ih1⟩ := segment_Check.mono_l k
  refine ⟨?_, ?_⟩
  ·
   intro y0 y1 y2 y3
   unfold segment_Check.j0
   repeat' first
   | (with_reducible exact ih0 _ _ _ _)
   | (with_reducible exact ih1 _ _ _ _ _)
   | (with_reducible exact record_Decode.mono _ _ _)
   | (with_reducible exact LeO.refl _)
   | (with_reducible exact LeO.none _)
   | (with_reducible refine LeO.ite ?_ ?_)
   | (with_reducible refine LeO.bind ?_ (fun _ => ?_))
   | exact ih0 _ _ _ _
   | exact ih1 _ _ _ _ _
   | exact record_Decode.mono _ _ _
   | exact LeO.none _
   | refine LeO.ite ?_ ?_
   | refine LeO.bind ?_ (fun _ => ?_)
  ·
   intro y0 y1 y2 y3 y4
   unfold segment_Check.l0
   repeat' first
   | (with_reducible exact ih0 _ _ _ _)
   | (with_reducible exact ih1 _ _ _ _ _)
   | (with_reducible exact record_Decode.mono _ _ _)
   | (with_reducible exact LeO.refl _)
   | (with_reducible exact LeO.none _)
   | (with_reducible refine LeO.ite ?_ ?_)
   | (with_reducible refine LeO.bind ?_ (fun _ => ?_))
   | exact ih0 _ _ _ _
   | exact ih1 _ _ _ _ _
   | exact record_Decode.mono _ _ _
   | exact LeO.none _
   | refine LeO.ite ?_ ?_
   | refine LeO.bind ?_ (fun _ => ?_)
theorem segment_Check.mono : ∀ a0 a1 a2 k, LeO (segment_Check.f k a0 a1 a2) (segment_Check.f (k + 1) a0 a1 a2) := by
 intro a0 a1 a2 k
 obtain ⟨ih0, ih1⟩ := segment_Check.mono_l k
 unfold segment_Check.f
 repeat' first
  | (with_reducible exact ih0 _ _ _ _)
  | (with_reducible exact ih1 _ _ _ _ _)
  | (with_reducible exact record_Decode.mono _ _ _)
  | (with_reducible exact LeO.refl _)
  | (with_reducible exact LeO.none _)
  | (with_reducible refine LeO.ite ?_ ?_)
  | (with_reducible refine LeO.bind ?_ (fun _ => ?_))
  | exact ih0 _ _ _ _
  | exact ih1 _ _ _ _ _
  | exact record_Decode.mono _ _ _
  | exact LeO.none _
  | refine LeO.ite ?_ ?_
  | refine LeO.bind ?_ (fun _ => ?_)
set_option maxHeartbeats 8000000 in
set_option maxRecDepth 100000 in
theorem segment_Check.calls (k : Nat) (a0_0 : Int) (a0_1 : Int) (A0_2 : Option Addr) (c0_2 : Nat) (l0_2 : List Int) (r : Int) (w : World) (hr0_2 : Kd.C (Kd.int .u8) w A0_2 l0_2.length l0_2) (hc0_2 : l0_2.length ≤ c0_2) (h : segment_Check.f k a0_0 a0_1 l0_2 = some r) :
 Calls Try.prog 48 #[.agg #[.int .i64 a0_0, .int .i64 a0_1, .slice A0_2 l0_2.length c0_2]] w fun e w' => e = .returned (.int .i64 r) ∧ Below w.heap.size w w' := by
 have hu43 := Try.underlying43
 have hu23 := Try.underlying23
 have HR0_2 := Aside0.mk hr0_2
 have HC0_2 := Aside0.mk hc0_2
 clear hr0_2 hc0_2
 have HB := Aside0.mk (Below.refl w.heap.size w)
 have H : (if a0_0 < 0 then (segment_Check.j0 k true a0_0 a0_1 l0_2) else (segment_Check.j0 k (decide (a0_0 > 1099511627776)) a0_0 a0_1 l0_2)) = some r := h
 clear h
 have HC2 := Aside0.mk H
 clear H
 go_enter Try.func48, Try.ntmps48
 go_upto_region 1 with (first | ((with_reducible refine gate_dst (N := 1) rfl ?_); refine Hlp.bx (N := 1) (cs := #[.int .i64 a0_0, .int .i64 a0_1, .slice A0_2 l0_2.length c0_2]) (t := 43) ?_; intro gb726 hg w3 hbox hb; have BK726 := Aside0.mk (hbox); have GW726 := Aside0.mk ((by rw [hg]; exact (below_size (Hlp.bl HB.out)) : w.heap.size ≤ gb726)); have GE726 := Aside0.mk ((by rw [hg]; exact (below_size (Hlp.bl HB.out)) : w.heap.size ≤ gb726)); replace HB := Aside0.mk (below_step (Hlp.bl HB.out) hb); clear hb hbox hg))
 (try simp only [Act.put, List.setIfInBounds_toArray, List.set_cons_zero, List.set_cons_succ])
 go_cut [15] (fun v15 wc => ∃ (kq : Nat) (x15_1 : Bool), v15 = .bool x15_1 ∧ Aside0 (segment_Check.j0 kq x15_1 a0_0 a0_1 l0_2 = some r) ∧ Aside0 (kq ≤ k) ∧ Aside0 (wc.heap[gb726]? = some (.cells #[.int .i64 a0_0, .int .i64 a0_1, (.slice A0_2 l0_2.length c0_2)] 43 (0, 0))) ∧ Aside0 (Below w.heap.size w wc))
 case first =>
  have H := HC2.out
  clear HC2
  by_cases c4 : a0_0 < 0
  ·
   rw [if_pos c4] at H
   have c4b0 : decide (a0_0 < 0) = true := decide_eq_true c4
   clear c4
   (first | rw [c4b0] | (simp only [i64_w, i32_w]; rw [c4b0]) | skip)
   have H' := Aside0.mk H
   clear H
   have hcz5_0 : w3.cell? ⟨gb726, 0, none⟩ = some (.int .i64 a0_0) := (blk_cell BK726.out 0).trans rfl
   have hcz5_1 : w3.cell? ⟨gb726, 1, none⟩ = some (.int .i64 a0_1) := (blk_cell BK726.out 1).trans rfl
   have hcz5_2 : w3.cell? ⟨gb726, 2, none⟩ = some (.slice A0_2 l0_2.length c0_2) := (blk_cell BK726.out 2).trans rfl
   have hfz5_0 := blk_frozen BK726.out 0
   have hfz5_1 := blk_frozen BK726.out 1
   have hfz5_2 := blk_frozen BK726.out 2
   go_wp2
   go_meet
   case rel => exact ⟨_, (true), (by first | rfl | (simp; done) | (simp [*]; done)), H', ⟨by first | omega | exact Nat.le_refl _⟩, ⟨by exact Hlp.bp BK726.out⟩, ⟨Hlp.bl HB.out⟩⟩
  ·
   rw [if_neg c4] at H
   have c4b0 : decide (a0_0 < 0) = false := decide_eq_false c4
   clear c4
   (first | rw [c4b0] | (simp only [i64_w, i32_w]; rw [c4b0]) | skip)
   have H' := Aside0.mk H
   clear H
   have hcz6_0 : w3.cell? ⟨gb726, 0, none⟩ = some (.int .i64 a0_0) := (blk_cell BK726.out 0).trans rfl
   have hcz6_1 : w3.cell? ⟨gb726, 1, none⟩ = some (.int .i64 a0_1) := (blk_cell BK726.out 1).trans rfl
   have hcz6_2 : w3.cell? ⟨gb726, 2, none⟩ = some (.slice A0_2 l0_2.length c0_2) := (blk_cell BK726.out 2).trans rfl
   have hfz6_0 := blk_frozen BK726.out 0
   have hfz6_1 := blk_frozen BK726.out 1
   have hfz6_2 := blk_frozen BK726.out 2
   go_wp2
   go_meet
   case rel => exact ⟨_, (decide (a0_0 > 1099511627776)), (by first | rfl | (simp; done) | (simp [*]; done)), H', ⟨by first | omega | exact Nat.le_refl _⟩, ⟨by exact Hlp.bp BK726.out⟩, ⟨Hlp.bl HB.out⟩⟩
 case rest =>
  clear HC2
  try clear p2
  try clear c4
  try clear c4b0
  try clear hcz5_0
  try clear hcz5_1
  try clear hcz5_2
  try clear hcz6_0
  try clear hcz6_1
  try clear hcz6_2
  try clear hfz5_0
  try clear hfz5_1
  try clear hfz5_2
  try clear hfz6_0
  try clear hfz6_1
  try clear hfz6_2
  obtain ⟨kq, x15_1, rfl, HA, HJ1, BK726, HB⟩ := hcut
  cases kq with
  | zero => exact absurd HA.out (by simp [segment_Check.j0])
  | succ kj1 =>
   have H := HA.out
   clear HA
   simp only [segment_Check.j0] at H
   by_cases c7 : x15_1 = true
   ·
    subst c7
    have H1 : (some 1) = some r := by rw [if_pos rfl] at H; exact H
    clear H
    have H := H1
    clear H1
    obtain rfl := Option.some.inj H
    go_wp2
    go_ret
    exact ⟨by first | rfl | (simp [errW_none, errW_some] <;> rfl) | (simp [*, errW_none, errW_some] <;> rfl), Hlp.bl HB.out⟩
   ·
    replace c7 := Bool.eq_false_iff.mpr c7
    subst c7
    have H1 : (if (l0_2.length : Int) > 65536 then (some 5) else (segment_Check.l0 kj1 a0_0 0 a0_0 a0_1 l0_2)) = some r := by rw [if_neg (show ¬ (false = true) by decide)] at H; exact H
    clear H
    have H := H1
    clear H1
    by_cases c8 : (l0_2.length : Int) > 65536
    ·
     rw [if_pos c8] at H
     have c8b0 : decide (65536 < (l0_2.length : Int)) = true := decide_eq_true c8
     have c8b1 : decide (65536 < l0_2.length) = true := decide_eq_true (by omega)
     clear c8
     obtain rfl := Option.some.inj H
     have hcz9_0 : wc.cell? ⟨gb726, 0, none⟩ = some (.int .i64 a0_0) := (blk_cell BK726.out 0).trans rfl
     have hcz9_1 : wc.cell? ⟨gb726, 1, none⟩ = some (.int .i64 a0_1) := (blk_cell BK726.out 1).trans rfl
     have hcz9_2 : wc.cell? ⟨gb726, 2, none⟩ = some (.slice A0_2 l0_2.length c0_2) := (blk_cell BK726.out 2).trans rfl
     have hfz9_0 := blk_frozen BK726.out 0
     have hfz9_1 := blk_frozen BK726.out 1
     have hfz9_2 := blk_frozen BK726.out 2
     go_wp2
     go_ret
     exact ⟨by first | rfl | (simp [errW_none, errW_some] <;> rfl) | (simp [*, errW_none, errW_some] <;> rfl), Hlp.bl HB.out⟩
    ·
     rw [if_neg c8] at H
     have c8b0 : decide (65536 < (l0_2.length : Int)) = false := decide_eq_false c8
     have c8b1 : decide (65536 < l0_2.length) = false := decide_eq_false (by omega)
     clear c8
     have H' := Aside0.mk H
     clear H
     have hcz10_0 : wc.cell? ⟨gb726, 0, none⟩ = some (.int .i64 a0_0) := (blk_cell BK726.out 0).trans rfl
     have hcz10_1 : wc.cell? ⟨gb726, 1, none⟩ = some (.int .i64 a0_1) := (blk_cell BK726.out 1).trans rfl
     have hcz10_2 : wc.cell? ⟨gb726, 2, none⟩ = some (.slice A0_2 l0_2.length c0_2) := (blk_cell BK726.out 2).trans rfl
     have hfz10_0 := blk_frozen BK726.out 0
     have hfz10_1 := blk_frozen BK726.out 1
     have hfz10_2 := blk_frozen BK726.out 2
     go_wp2
     go_loopg [3, 4] kj1 (fun kq v3 v4 w' => ∃ (x3_2 : Int) (x4_2 : Int), v3 = .int .i64 x3_2 ∧ v4 = .int .i64 x4_2 ∧ Aside0 (segment_Check.l0 kq x3_2 x4_2 a0_0 a0_1 l0_2 = some r) ∧ Aside0 (kq ≤ kj1) ∧ Aside0 (w'.heap[gb726]? = some (.cells #[.int .i64 a0_0, .int .i64 a0_1, (.slice A0_2 l0_2.length c0_2)] 43 (0, 0))) ∧ Aside0 (Below w.heap.size w w'))
     case atStart => exact ⟨(a0_0), (0), (by first | rfl | (simp; done) | (simp [*]; done)), (by first | rfl | (simp; done) | (simp [*]; done)), H', ⟨Nat.le_refl _⟩, ⟨by exact Hlp.bp BK726.out⟩, ⟨Hlp.bl HB.out⟩⟩
     case round =>
      clear H'
      try clear p2
      try clear c4
      try clear c4b0
      try clear c7
      try clear c8
      try clear c8b0
      try clear c8b1
      try clear hcz10_0
      try clear hcz10_1
      try clear hcz10_2
      try clear hcz5_0
      try clear hcz5_1
      try clear hcz5_2
      try clear hcz6_0
      try clear hcz6_1
      try clear hcz6_2
      try clear hcz9_0
      try clear hcz9_1
      try clear hcz9_2
      try clear hfz10_0
      try clear hfz10_1
      try clear hfz10_2
      try clear hfz5_0
      try clear hfz5_1
      try clear hfz5_2
      try clear hfz6_0
      try clear hfz6_1
      try clear hfz6_2
      try clear hfz9_0
      try clear hfz9_1
      try clear hfz9_2
      try clear p2
      obtain ⟨x3_2, x4_2, rfl, rfl, HA, HK2, BK726, HB⟩ := hrel
      cases gk with
      | zero => exact absurd HA.out (by simp [segment_Check.l0])
      | succ k2 =>
       have H := HA.out
       clear HA
       simp only [segment_Check.l0] at H
       by_cases c11 : x4_2 < (l0_2.length : Int)
       ·
        rw [if_pos c11] at H
        have c11b0 : decide (x4_2 < (l0_2.length : Int)) = true := decide_eq_true c11
        clear c11
        replace H := Option.bind_eq_some_iff.mp H
        obtain ⟨⟨t727, t728, t729, t730, t731, t732⟩, A120, H⟩ := H
        replace H : (if t732 = 0 then (if t727 = x3_2 then (segment_Check.l0 k2 (wrap64 (x3_2 + 1)) t731 a0_0 a0_1 l0_2) else (some 22)) else (some t732)) = some r := H
        have A12 := Aside0.mk A120
        clear A120
        by_cases c13 : t732 = 0
        ·
         rw [if_pos c13] at H
         have c13b0 : (t732 == 0) = true := beq_iff_eq.mpr c13
         have c13b1 : (t732 != 0) = false := bne_eq_false_iff_eq.mpr c13
         clear c13
         by_cases c14 : t727 = x3_2
         ·
          rw [if_pos c14] at H
          have c14b0 : (t727 == x3_2) = true := beq_iff_eq.mpr c14
          have c14b1 : (t727 != x3_2) = false := bne_eq_false_iff_eq.mpr c14
          clear c14
          have H' := Aside0.mk H
          clear H
          have hcz15_0 : wr.cell? ⟨gb726, 0, none⟩ = some (.int .i64 a0_0) := (blk_cell BK726.out 0).trans rfl
          have hcz15_1 : wr.cell? ⟨gb726, 1, none⟩ = some (.int .i64 a0_1) := (blk_cell BK726.out 1).trans rfl
          have hcz15_2 : wr.cell? ⟨gb726, 2, none⟩ = some (.slice A0_2 l0_2.length c0_2) := (blk_cell BK726.out 2).trans rfl
          have hfz15_0 := blk_frozen BK726.out 0
          have hfz15_1 := blk_frozen BK726.out 1
          have hfz15_2 := blk_frozen BK726.out 2
          go_wp2_with (first | ((with_reducible refine gate_callee (f := 29) rfl ?_); refine Hlp.gl (some 33) Try.func29 #[.slice A0_2 l0_2.length c0_2, .int .i64 x4_2] ?_; (with_reducible refine (record_Decode.calls k2 _ _ l0_2 x4_2 t727 t728 t729 t730 t731 t732 _ ?side1 ?side2 A12.out).mono ?_); (case side1 => exact Hlp.cp (Kd.C_below HR0_2.out HB.out)); (case side2 => exact HC0_2.out); rintro e w16 ⟨rfl, hb⟩; refine ⟨_, rfl, ?_⟩; replace BK726 := Aside0.mk (blk_below (g := gb726) (o := .cells #[.int .i64 a0_0, .int .i64 a0_1, .slice A0_2 l0_2.length c0_2] 43 (0, 0)) (Hlp.bp BK726.out) hb); replace HB := Aside0.mk (below_step (Hlp.bl HB.out) hb); (try clear hb); (try clear hb2); (try clear hk); (try clear hi)) | ((with_reducible refine gate_dst (N := 5) rfl ?_); refine Hlp.bx (N := 5) (cs := #[.int .i64 0, .int .i64 0, .string (⟨#[]⟩ : ByteArray), .string (⟨#[]⟩ : ByteArray)]) (t := 23) ?_; intro gb733 hg w17 hbox hb; have BK733 := Aside0.mk (hbox); have GW733 := Aside0.mk ((by rw [hg]; exact (below_size (Hlp.bl HB.out)) : w.heap.size ≤ gb733)); have GE733 := Aside0.mk ((by rw [hg]; exact (below_size (Hlp.bl HB.out)) : w.heap.size ≤ gb733)); replace HB := Aside0.mk (below_step (Hlp.bl HB.out) hb); have NB726_733 := Aside0.mk ((by rw [hg]; exact Nat.ne_of_lt (blk_lt (g := gb726) (o := .cells #[.int .i64 a0_0, .int .i64 a0_1, .slice A0_2 l0_2.length c0_2] 43 (0, 0)) (Hlp.bp BK726.out)) : gb726 ≠ gb733)); have NB733_726 := Aside0.mk ((by rw [hg]; exact Nat.ne_of_gt (blk_lt (g := gb726) (o := .cells #[.int .i64 a0_0, .int .i64 a0_1, .slice A0_2 l0_2.length c0_2] 43 (0, 0)) (Hlp.bp BK726.out)) : gb733 ≠ gb726)); replace BK726 := Aside0.mk (blk_below (g := gb726) (o := .cells #[.int .i64 a0_0, .int .i64 a0_1, .slice A0_2 l0_2.length c0_2] 43 (0, 0)) (Hlp.bp BK726.out) hb); clear hb hbox hg; have hnb18 := NB733_726.out; have hnc18 := NB726_733.out; have hcz19_0 : w17.cell? ⟨gb733, 0, none⟩ = some (.int .i64 0) := (blk_cell BK733.out 0).trans rfl; have hcz19_1 : w17.cell? ⟨gb733, 1, none⟩ = some (.int .i64 0) := (blk_cell BK733.out 1).trans rfl; have hcz19_2 : w17.cell? ⟨gb733, 2, none⟩ = some (.string (⟨#[]⟩ : ByteArray)) := (blk_cell BK733.out 2).trans rfl; have hcz19_3 : w17.cell? ⟨gb733, 3, none⟩ = some (.string (⟨#[]⟩ : ByteArray)) := (blk_cell BK733.out 3).trans rfl; have hfz19_0 := blk_frozen BK733.out 0; have hfz19_1 := blk_frozen BK733.out 1; have hfz19_2 := blk_frozen BK733.out 2; have hfz19_3 := blk_frozen BK733.out 3))
          go_roundg k2
          case measure => have := HJ1.out; have := HK2.out; omega
          case rel => exact ⟨(wrap64 (x3_2 + 1)), (t731), (by first | rfl | (simp; done) | (simp [*]; done)), (by first | rfl | (simp; done) | (simp [*]; done)), H', ⟨by have := HJ1.out; have := HK2.out; omega⟩, ⟨by refine Hlp.bp (blk_far ?_ NB726_733.out _); refine Hlp.bp (blk_far ?_ NB726_733.out _); refine Hlp.bp (blk_far ?_ NB726_733.out _); refine Hlp.bp (blk_far ?_ NB726_733.out _); exact Hlp.bp BK726.out⟩, ⟨Hlp.bl HB.out⟩⟩
         ·
          rw [if_neg c14] at H
          have c14b0 : (t727 == x3_2) = false := beq_eq_false_iff_ne.mpr c14
          have c14b1 : (t727 != x3_2) = true := bne_iff_ne.mpr c14
          obtain rfl := Option.some.inj H
          have hcz20_0 : wr.cell? ⟨gb726, 0, none⟩ = some (.int .i64 a0_0) := (blk_cell BK726.out 0).trans rfl
          have hcz20_1 : wr.cell? ⟨gb726, 1, none⟩ = some (.int .i64 a0_1) := (blk_cell BK726.out 1).trans rfl
          have hcz20_2 : wr.cell? ⟨gb726, 2, none⟩ = some (.slice A0_2 l0_2.length c0_2) := (blk_cell BK726.out 2).trans rfl
          have hfz20_0 := blk_frozen BK726.out 0
          have hfz20_1 := blk_frozen BK726.out 1
          have hfz20_2 := blk_frozen BK726.out 2
          go_wp2_with (first | ((with_reducible refine gate_callee (f := 29) rfl ?_); refine Hlp.gl (some 33) Try.func29 #[.slice A0_2 l0_2.length c0_2, .int .i64 x4_2] ?_; (with_reducible refine (record_Decode.calls k2 _ _ l0_2 x4_2 t727 t728 t729 t730 t731 t732 _ ?side1 ?side2 A12.out).mono ?_); (case side1 => exact Hlp.cp (Kd.C_below HR0_2.out HB.out)); (case side2 => exact HC0_2.out); rintro e w21 ⟨rfl, hb⟩; refine ⟨_, rfl, ?_⟩; replace BK726 := Aside0.mk (blk_below (g := gb726) (o := .cells #[.int .i64 a0_0, .int .i64 a0_1, .slice A0_2 l0_2.length c0_2] 43 (0, 0)) (Hlp.bp BK726.out) hb); replace HB := Aside0.mk (below_step (Hlp.bl HB.out) hb); (try clear hb); (try clear hb2); (try clear hk); (try clear hi)) | ((with_reducible refine gate_dst (N := 5) rfl ?_); refine Hlp.bx (N := 5) (cs := #[.int .i64 0, .int .i64 0, .string (⟨#[]⟩ : ByteArray), .string (⟨#[]⟩ : ByteArray)]) (t := 23) ?_; intro gb733 hg w22 hbox hb; have BK733 := Aside0.mk (hbox); have GW733 := Aside0.mk ((by rw [hg]; exact (below_size (Hlp.bl HB.out)) : w.heap.size ≤ gb733)); have GE733 := Aside0.mk ((by rw [hg]; exact (below_size (Hlp.bl HB.out)) : w.heap.size ≤ gb733)); replace HB := Aside0.mk (below_step (Hlp.bl HB.out) hb); have NB726_733 := Aside0.mk ((by rw [hg]; exact Nat.ne_of_lt (blk_lt (g := gb726) (o := .cells #[.int .i64 a0_0, .int .i64 a0_1, .slice A0_2 l0_2.length c0_2] 43 (0, 0)) (Hlp.bp BK726.out)) : gb726 ≠ gb733)); have NB733_726 := Aside0.mk ((by rw [hg]; exact Nat.ne_of_gt (blk_lt (g := gb726) (o := .cells #[.int .i64 a0_0, .int .i64 a0_1, .slice A0_2 l0_2.length c0_2] 43 (0, 0)) (Hlp.bp BK726.out)) : gb733 ≠ gb726)); replace BK726 := Aside0.mk (blk_below (g := gb726) (o := .cells #[.int .i64 a0_0, .int .i64 a0_1, .slice A0_2 l0_2.length c0_2] 43 (0, 0)) (Hlp.bp BK726.out) hb); clear hb hbox hg; have hnb23 := NB733_726.out; have hnc23 := NB726_733.out; have hcz24_0 : w22.cell? ⟨gb733, 0, none⟩ = some (.int .i64 0) := (blk_cell BK733.out 0).trans rfl; have hcz24_1 : w22.cell? ⟨gb733, 1, none⟩ = some (.int .i64 0) := (blk_cell BK733.out 1).trans rfl; have hcz24_2 : w22.cell? ⟨gb733, 2, none⟩ = some (.string (⟨#[]⟩ : ByteArray)) := (blk_cell BK733.out 2).trans rfl; have hcz24_3 : w22.cell? ⟨gb733, 3, none⟩ = some (.string (⟨#[]⟩ : ByteArray)) := (blk_cell BK733.out 3).trans rfl; have hfz24_0 := blk_frozen BK733.out 0; have hfz24_1 := blk_frozen BK733.out 1; have hfz24_2 := blk_frozen BK733.out 2; have hfz24_3 := blk_frozen BK733.out 3))
          go_ret
          exact ⟨by first | rfl | (simp [errW_none, errW_some] <;> rfl) | (simp [*, errW_none, errW_some] <;> rfl), Hlp.bl HB.out⟩
        ·
         rw [if_neg c13] at H
         have c13b0 : (t732 == 0) = false := beq_eq_false_iff_ne.mpr c13
         have c13b1 : (t732 != 0) = true := bne_iff_ne.mpr c13
         obtain rfl := Option.some.inj H
         have hcz25_0 : wr.cell? ⟨gb726, 0, none⟩ = some (.int .i64 a0_0) := (blk_cell BK726.out 0).trans rfl
         have hcz25_1 : wr.cell? ⟨gb726, 1, none⟩ = some (.int .i64 a0_1) := (blk_cell BK726.out 1).trans rfl
         have hcz25_2 : wr.cell? ⟨gb726, 2, none⟩ = some (.slice A0_2 l0_2.length c0_2) := (blk_cell BK726.out 2).trans rfl
         have hfz25_0 := blk_frozen BK726.out 0
         have hfz25_1 := blk_frozen BK726.out 1
         have hfz25_2 := blk_frozen BK726.out 2
         go_wp2_with (first | ((with_reducible refine gate_callee (f := 29) rfl ?_); refine Hlp.gl (some 33) Try.func29 #[.slice A0_2 l0_2.length c0_2, .int .i64 x4_2] ?_; (with_reducible refine (record_Decode.calls k2 _ _ l0_2 x4_2 t727 t728 t729 t730 t731 t732 _ ?side1 ?side2 A12.out).mono ?_); (case side1 => exact Hlp.cp (Kd.C_below HR0_2.out HB.out)); (case side2 => exact HC0_2.out); rintro e w26 ⟨rfl, hb⟩; refine ⟨_, rfl, ?_⟩; replace BK726 := Aside0.mk (blk_below (g := gb726) (o := .cells #[.int .i64 a0_0, .int .i64 a0_1, .slice A0_2 l0_2.length c0_2] 43 (0, 0)) (Hlp.bp BK726.out) hb); replace HB := Aside0.mk (below_step (Hlp.bl HB.out) hb); (try clear hb); (try clear hb2); (try clear hk); (try clear hi)) | ((with_reducible refine gate_dst (N := 5) rfl ?_); refine Hlp.bx (N := 5) (cs := #[.int .i64 0, .int .i64 0, .string (⟨#[]⟩ : ByteArray), .string (⟨#[]⟩ : ByteArray)]) (t := 23) ?_; intro gb733 hg w27 hbox hb; have BK733 := Aside0.mk (hbox); have GW733 := Aside0.mk ((by rw [hg]; exact (below_size (Hlp.bl HB.out)) : w.heap.size ≤ gb733)); have GE733 := Aside0.mk ((by rw [hg]; exact (below_size (Hlp.bl HB.out)) : w.heap.size ≤ gb733)); replace HB := Aside0.mk (below_step (Hlp.bl HB.out) hb); have NB726_733 := Aside0.mk ((by rw [hg]; exact Nat.ne_of_lt (blk_lt (g := gb726) (o := .cells #[.int .i64 a0_0, .int .i64 a0_1, .slice A0_2 l0_2.length c0_2] 43 (0, 0)) (Hlp.bp BK726.out)) : gb726 ≠ gb733)); have NB733_726 := Aside0.mk ((by rw [hg]; exact Nat.ne_of_gt (blk_lt (g := gb726) (o := .cells #[.int .i64 a0_0, .int .i64 a0_1, .slice A0_2 l0_2.length c0_2] 43 (0, 0)) (Hlp.bp BK726.out)) : gb733 ≠ gb726)); replace BK726 := Aside0.mk (blk_below (g := gb726) (o := .cells #[.int .i64 a0_0, .int .i64 a0_1, .slice A0_2 l0_2.length c0_2] 43 (0, 0)) (Hlp.bp BK726.out) hb); clear hb hbox hg; have hnb28 := NB733_726.out; have hnc28 := NB726_733.out; have hcz29_0 : w27.cell? ⟨gb733, 0, none⟩ = some (.int .i64 0) := (blk_cell BK733.out 0).trans rfl; have hcz29_1 : w27.cell? ⟨gb733, 1, none⟩ = some (.int .i64 0) := (blk_cell BK733.out 1).trans rfl; have hcz29_2 : w27.cell? ⟨gb733, 2, none⟩ = some (.string (⟨#[]⟩ : ByteArray)) := (blk_cell BK733.out 2).trans rfl; have hcz29_3 : w27.cell? ⟨gb733, 3, none⟩ = some (.string (⟨#[]⟩ : ByteArray)) := (blk_cell BK733.out 3).trans rfl; have hfz29_0 := blk_frozen BK733.out 0; have hfz29_1 := blk_frozen BK733.out 1; have hfz29_2 := blk_frozen BK733.out 2; have hfz29_3 := blk_frozen BK733.out 3))
         go_ret
         exact ⟨by first | rfl | (simp [errW_none, errW_some] <;> rfl) | (simp [*, errW_none, errW_some] <;> rfl), Hlp.bl HB.out⟩
       ·
        rw [if_neg c11] at H
        have c11b0 : decide (x4_2 < (l0_2.length : Int)) = false := decide_eq_false c11
        clear c11
        by_cases c30 : a0_1 = x3_2
        ·
         rw [if_pos c30] at H
         have c30b0 : (a0_1 == x3_2) = true := beq_iff_eq.mpr c30
         have c30b1 : (a0_1 != x3_2) = false := bne_eq_false_iff_eq.mpr c30
         clear c30
         obtain rfl := Option.some.inj H
         have hcz31_0 : wr.cell? ⟨gb726, 0, none⟩ = some (.int .i64 a0_0) := (blk_cell BK726.out 0).trans rfl
         have hcz31_1 : wr.cell? ⟨gb726, 1, none⟩ = some (.int .i64 a0_1) := (blk_cell BK726.out 1).trans rfl
         have hcz31_2 : wr.cell? ⟨gb726, 2, none⟩ = some (.slice A0_2 l0_2.length c0_2) := (blk_cell BK726.out 2).trans rfl
         have hfz31_0 := blk_frozen BK726.out 0
         have hfz31_1 := blk_frozen BK726.out 1
         have hfz31_2 := blk_frozen BK726.out 2
         go_wp2
         go_ret
         exact ⟨by first | rfl | (simp [errW_none, errW_some] <;> rfl) | (simp [*, errW_none, errW_some] <;> rfl), Hlp.bl HB.out⟩
        ·
         rw [if_neg c30] at H
         have c30b0 : (a0_1 == x3_2) = false := beq_eq_false_iff_ne.mpr c30
         have c30b1 : (a0_1 != x3_2) = true := bne_iff_ne.mpr c30
         obtain rfl := Option.some.inj H
         have hcz32_0 : wr.cell? ⟨gb726, 0, none⟩ = some (.int .i64 a0_0) := (blk_cell BK726.out 0).trans rfl
         have hcz32_1 : wr.cell? ⟨gb726, 1, none⟩ = some (.int .i64 a0_1) := (blk_cell BK726.out 1).trans rfl
         have hcz32_2 : wr.cell? ⟨gb726, 2, none⟩ = some (.slice A0_2 l0_2.length c0_2) := (blk_cell BK726.out 2).trans rfl
         have hfz32_0 := blk_frozen BK726.out 0
         have hfz32_1 := blk_frozen BK726.out 1
         have hfz32_2 := blk_frozen BK726.out 2
         go_wp2
         go_ret
         exact ⟨by first | rfl | (simp [errW_none, errW_some] <;> rfl) | (simp [*, errW_none, errW_some] <;> rfl), Hlp.bl HB.out⟩


/-! ### brokerref32_Same: function 50 -/
def brokerref32_Same.f (a0_0 : Int) (a0_1 : Int) (l0_2 : List Int) (a1_0 : Int) (a1_1 : Int) (l1_2 : List Int) : Option (Bool) := if a0_0 = a1_0 then (if a0_1 = a1_1 then (some ((strOfNums l0_2).toList == (strOfNums l1_2).toList)) else (some false)) else (some false)
set_option maxHeartbeats 8000000 in
set_option maxRecDepth 100000 in
theorem brokerref32_Same.calls (a0_0 : Int) (a0_1 : Int) (A0_2 : Option Addr) (c0_2 : Nat) (l0_2 : List Int) (a1_0 : Int) (a1_1 : Int) (A1_2 : Option Addr) (c1_2 : Nat) (l1_2 : List Int) (r : Bool) (w : World) (hr0_2 : Kd.C (Kd.int .u8) w A0_2 l0_2.length l0_2) (hc0_2 : l0_2.length ≤ c0_2) (hr1_2 : Kd.C (Kd.int .u8) w A1_2 l1_2.length l1_2) (hc1_2 : l1_2.length ≤ c1_2) (h : brokerref32_Same.f a0_0 a0_1 l0_2 a1_0 a1_1 l1_2 = some r) :
 Calls Try.prog 50 #[.agg #[.int .i64 a0_0, .int .i64 a0_1, .slice A0_2 l0_2.length c0_2], .agg #[.int .i64 a1_0, .int .i64 a1_1, .slice A1_2 l1_2.length c1_2]] w fun e w' => e = .returned (.bool r) ∧ Below w.heap.size w w' := by
 have hu43 := Try.underlying43
 have HR0_2 := Aside0.mk hr0_2
 have HC0_2 := Aside0.mk hc0_2
 clear hr0_2 hc0_2
 have HR1_2 := Aside0.mk hr1_2
 have HC1_2 := Aside0.mk hc1_2
 clear hr1_2 hc1_2
 have HB := Aside0.mk (Below.refl w.heap.size w)
 have H : (if a0_0 = a1_0 then (if a0_1 = a1_1 then (some ((strOfNums l0_2).toList == (strOfNums l1_2).toList)) else (some false)) else (some false)) = some r := h
 clear h
 by_cases c3 : a0_0 = a1_0
 ·
  rw [if_pos c3] at H
  have c3b0 : (a0_0 == a1_0) = true := beq_iff_eq.mpr c3
  have c3b1 : (a0_0 != a1_0) = false := bne_eq_false_iff_eq.mpr c3
  clear c3
  by_cases c4 : a0_1 = a1_1
  ·
   rw [if_pos c4] at H
   have c4b0 : (a0_1 == a1_1) = true := beq_iff_eq.mpr c4
   have c4b1 : (a0_1 != a1_1) = false := bne_eq_false_iff_eq.mpr c4
   clear c4
   obtain rfl := Option.some.inj H
   go_enter Try.func50, Try.ntmps50
   go_wp2_with (first | ((with_reducible refine gate_dst (N := 2) rfl ?_); refine Hlp.bx (N := 2) (cs := #[.int .i64 a0_0, .int .i64 a0_1, .slice A0_2 l0_2.length c0_2]) (t := 43) ?_; intro gb734 hg w5 hbox hb; have BK734 := Aside0.mk (hbox); have GW734 := Aside0.mk ((by rw [hg]; exact (below_size (Hlp.bl HB.out)) : w.heap.size ≤ gb734)); have GE734 := Aside0.mk ((by rw [hg]; exact (below_size (Hlp.bl HB.out)) : w.heap.size ≤ gb734)); replace HB := Aside0.mk (below_step (Hlp.bl HB.out) hb); clear hb hbox hg) | ((with_reducible refine gate_dst (N := 3) rfl ?_); refine Hlp.bx (N := 3) (cs := #[.int .i64 a1_0, .int .i64 a1_1, .slice A1_2 l1_2.length c1_2]) (t := 43) ?_; intro gb735 hg w6 hbox hb; have BK735 := Aside0.mk (hbox); have GW735 := Aside0.mk ((by rw [hg]; exact (below_size (Hlp.bl HB.out)) : w.heap.size ≤ gb735)); have GE735 := Aside0.mk ((by rw [hg]; exact (below_size (Hlp.bl HB.out)) : w.heap.size ≤ gb735)); replace HB := Aside0.mk (below_step (Hlp.bl HB.out) hb); have NB734_735 := Aside0.mk ((by rw [hg]; exact Nat.ne_of_lt (blk_lt (g := gb734) (o := .cells #[.int .i64 a0_0, .int .i64 a0_1, .slice A0_2 l0_2.length c0_2] 43 (0, 0)) (Hlp.bp BK734.out)) : gb734 ≠ gb735)); have NB735_734 := Aside0.mk ((by rw [hg]; exact Nat.ne_of_gt (blk_lt (g := gb734) (o := .cells #[.int .i64 a0_0, .int .i64 a0_1, .slice A0_2 l0_2.length c0_2] 43 (0, 0)) (Hlp.bp BK734.out)) : gb735 ≠ gb734)); replace BK734 := Aside0.mk (blk_below (g := gb734) (o := .cells #[.int .i64 a0_0, .int .i64 a0_1, .slice A0_2 l0_2.length c0_2] 43 (0, 0)) (Hlp.bp BK734.out) hb); clear hb hbox hg; have hnb7 := NB734_735.out; have hnc7 := NB735_734.out; have hcz8_0 : w6.cell? ⟨gb734, 0, none⟩ = some (.int .i64 a0_0) := (blk_cell BK734.out 0).trans rfl; have hcz8_1 : w6.cell? ⟨gb734, 1, none⟩ = some (.int .i64 a0_1) := (blk_cell BK734.out 1).trans rfl; have hcz8_2 : w6.cell? ⟨gb734, 2, none⟩ = some (.slice A0_2 l0_2.length c0_2) := (blk_cell BK734.out 2).trans rfl; have hfz8_0 := blk_frozen BK734.out 0; have hfz8_1 := blk_frozen BK734.out 1; have hfz8_2 := blk_frozen BK734.out 2; have hcz9_0 : w6.cell? ⟨gb735, 0, none⟩ = some (.int .i64 a1_0) := (blk_cell BK735.out 0).trans rfl; have hcz9_1 : w6.cell? ⟨gb735, 1, none⟩ = some (.int .i64 a1_1) := (blk_cell BK735.out 1).trans rfl; have hcz9_2 : w6.cell? ⟨gb735, 2, none⟩ = some (.slice A1_2 l1_2.length c1_2) := (blk_cell BK735.out 2).trans rfl; have hfz9_0 := blk_frozen BK735.out 0; have hfz9_1 := blk_frozen BK735.out 1; have hfz9_2 := blk_frozen BK735.out 2; have hcv10 := Kd.C_string (P := Try.prog) (A := A0_2) (c := c0_2) Try.underlying28 Try.underlying5 Try.underlying9 (Kd.C_below HR0_2.out HB.out); have hcv11 := Kd.C_string (P := Try.prog) (A := A1_2) (c := c1_2) Try.underlying28 Try.underlying5 Try.underlying9 (Kd.C_below HR1_2.out HB.out)))
   go_ret
   exact ⟨by first | rfl | (simp [errW_none, errW_some] <;> rfl) | (simp [*, errW_none, errW_some] <;> rfl), Hlp.bl HB.out⟩
  ·
   rw [if_neg c4] at H
   have c4b0 : (a0_1 == a1_1) = false := beq_eq_false_iff_ne.mpr c4
   have c4b1 : (a0_1 != a1_1) = true := bne_iff_ne.mpr c4
   obtain rfl := Option.some.inj H
   go_enter Try.func50, Try.ntmps50
   go_wp2_with (first | ((with_reducible refine gate_dst (N := 2) rfl ?_); refine Hlp.bx (N := 2) (cs := #[.int .i64 a0_0, .int .i64 a0_1, .slice A0_2 l0_2.length c0_2]) (t := 43) ?_; intro gb734 hg w12 hbox hb; have BK734 := Aside0.mk (hbox); have GW734 := Aside0.mk ((by rw [hg]; exact (below_size (Hlp.bl HB.out)) : w.heap.size ≤ gb734)); have GE734 := Aside0.mk ((by rw [hg]; exact (below_size (Hlp.bl HB.out)) : w.heap.size ≤ gb734)); replace HB := Aside0.mk (below_step (Hlp.bl HB.out) hb); clear hb hbox hg) | ((with_reducible refine gate_dst (N := 3) rfl ?_); refine Hlp.bx (N := 3) (cs := #[.int .i64 a1_0, .int .i64 a1_1, .slice A1_2 l1_2.length c1_2]) (t := 43) ?_; intro gb735 hg w13 hbox hb; have BK735 := Aside0.mk (hbox); have GW735 := Aside0.mk ((by rw [hg]; exact (below_size (Hlp.bl HB.out)) : w.heap.size ≤ gb735)); have GE735 := Aside0.mk ((by rw [hg]; exact (below_size (Hlp.bl HB.out)) : w.heap.size ≤ gb735)); replace HB := Aside0.mk (below_step (Hlp.bl HB.out) hb); have NB734_735 := Aside0.mk ((by rw [hg]; exact Nat.ne_of_lt (blk_lt (g := gb734) (o := .cells #[.int .i64 a0_0, .int .i64 a0_1, .slice A0_2 l0_2.length c0_2] 43 (0, 0)) (Hlp.bp BK734.out)) : gb734 ≠ gb735)); have NB735_734 := Aside0.mk ((by rw [hg]; exact Nat.ne_of_gt (blk_lt (g := gb734) (o := .cells #[.int .i64 a0_0, .int .i64 a0_1, .slice A0_2 l0_2.length c0_2] 43 (0, 0)) (Hlp.bp BK734.out)) : gb735 ≠ gb734)); replace BK734 := Aside0.mk (blk_below (g := gb734) (o := .cells #[.int .i64 a0_0, .int .i64 a0_1, .slice A0_2 l0_2.length c0_2] 43 (0, 0)) (Hlp.bp BK734.out) hb); clear hb hbox hg; have hnb14 := NB734_735.out; have hnc14 := NB735_734.out; have hcz15_0 : w13.cell? ⟨gb734, 0, none⟩ = some (.int .i64 a0_0) := (blk_cell BK734.out 0).trans rfl; have hcz15_1 : w13.cell? ⟨gb734, 1, none⟩ = some (.int .i64 a0_1) := (blk_cell BK734.out 1).trans rfl; have hcz15_2 : w13.cell? ⟨gb734, 2, none⟩ = some (.slice A0_2 l0_2.length c0_2) := (blk_cell BK734.out 2).trans rfl; have hfz15_0 := blk_frozen BK734.out 0; have hfz15_1 := blk_frozen BK734.out 1; have hfz15_2 := blk_frozen BK734.out 2; have hcz16_0 : w13.cell? ⟨gb735, 0, none⟩ = some (.int .i64 a1_0) := (blk_cell BK735.out 0).trans rfl; have hcz16_1 : w13.cell? ⟨gb735, 1, none⟩ = some (.int .i64 a1_1) := (blk_cell BK735.out 1).trans rfl; have hcz16_2 : w13.cell? ⟨gb735, 2, none⟩ = some (.slice A1_2 l1_2.length c1_2) := (blk_cell BK735.out 2).trans rfl; have hfz16_0 := blk_frozen BK735.out 0; have hfz16_1 := blk_frozen BK735.out 1; have hfz16_2 := blk_frozen BK735.out 2))
   go_ret
   exact ⟨by first | rfl | (simp [errW_none, errW_some] <;> rfl) | (simp [*, errW_none, errW_some] <;> rfl), Hlp.bl HB.out⟩
 ·
  rw [if_neg c3] at H
  have c3b0 : (a0_0 == a1_0) = false := beq_eq_false_iff_ne.mpr c3
  have c3b1 : (a0_0 != a1_0) = true := bne_iff_ne.mpr c3
  obtain rfl := Option.some.inj H
  go_enter Try.func50, Try.ntmps50
  go_wp2_with (first | ((with_reducible refine gate_dst (N := 2) rfl ?_); refine Hlp.bx (N := 2) (cs := #[.int .i64 a0_0, .int .i64 a0_1, .slice A0_2 l0_2.length c0_2]) (t := 43) ?_; intro gb734 hg w17 hbox hb; have BK734 := Aside0.mk (hbox); have GW734 := Aside0.mk ((by rw [hg]; exact (below_size (Hlp.bl HB.out)) : w.heap.size ≤ gb734)); have GE734 := Aside0.mk ((by rw [hg]; exact (below_size (Hlp.bl HB.out)) : w.heap.size ≤ gb734)); replace HB := Aside0.mk (below_step (Hlp.bl HB.out) hb); clear hb hbox hg) | ((with_reducible refine gate_dst (N := 3) rfl ?_); refine Hlp.bx (N := 3) (cs := #[.int .i64 a1_0, .int .i64 a1_1, .slice A1_2 l1_2.length c1_2]) (t := 43) ?_; intro gb735 hg w18 hbox hb; have BK735 := Aside0.mk (hbox); have GW735 := Aside0.mk ((by rw [hg]; exact (below_size (Hlp.bl HB.out)) : w.heap.size ≤ gb735)); have GE735 := Aside0.mk ((by rw [hg]; exact (below_size (Hlp.bl HB.out)) : w.heap.size ≤ gb735)); replace HB := Aside0.mk (below_step (Hlp.bl HB.out) hb); have NB734_735 := Aside0.mk ((by rw [hg]; exact Nat.ne_of_lt (blk_lt (g := gb734) (o := .cells #[.int .i64 a0_0, .int .i64 a0_1, .slice A0_2 l0_2.length c0_2] 43 (0, 0)) (Hlp.bp BK734.out)) : gb734 ≠ gb735)); have NB735_734 := Aside0.mk ((by rw [hg]; exact Nat.ne_of_gt (blk_lt (g := gb734) (o := .cells #[.int .i64 a0_0, .int .i64 a0_1, .slice A0_2 l0_2.length c0_2] 43 (0, 0)) (Hlp.bp BK734.out)) : gb735 ≠ gb734)); replace BK734 := Aside0.mk (blk_below (g := gb734) (o := .cells #[.int .i64 a0_0, .int .i64 a0_1, .slice A0_2 l0_2.length c0_2] 43 (0, 0)) (Hlp.bp BK734.out) hb); clear hb hbox hg; have hnb19 := NB734_735.out; have hnc19 := NB735_734.out; have hcz20_0 : w18.cell? ⟨gb734, 0, none⟩ = some (.int .i64 a0_0) := (blk_cell BK734.out 0).trans rfl; have hcz20_1 : w18.cell? ⟨gb734, 1, none⟩ = some (.int .i64 a0_1) := (blk_cell BK734.out 1).trans rfl; have hcz20_2 : w18.cell? ⟨gb734, 2, none⟩ = some (.slice A0_2 l0_2.length c0_2) := (blk_cell BK734.out 2).trans rfl; have hfz20_0 := blk_frozen BK734.out 0; have hfz20_1 := blk_frozen BK734.out 1; have hfz20_2 := blk_frozen BK734.out 2; have hcz21_0 : w18.cell? ⟨gb735, 0, none⟩ = some (.int .i64 a1_0) := (blk_cell BK735.out 0).trans rfl; have hcz21_1 : w18.cell? ⟨gb735, 1, none⟩ = some (.int .i64 a1_1) := (blk_cell BK735.out 1).trans rfl; have hcz21_2 : w18.cell? ⟨gb735, 2, none⟩ = some (.slice A1_2 l1_2.length c1_2) := (blk_cell BK735.out 2).trans rfl; have hfz21_0 := blk_frozen BK735.out 0; have hfz21_1 := blk_frozen BK735.out 1; have hfz21_2 := blk_frozen BK735.out 2))
  go_ret
  exact ⟨by first | rfl | (simp [errW_none, errW_some] <;> rfl) | (simp [*, errW_none, errW_some] <;> rfl), Hlp.bl HB.out⟩


/-! ### segment_New: function 51 -/
def segment_New.f (a0 : Int) : Option (Int × Int × List Int) := some (a0, a0, ([] : List Int))
set_option maxHeartbeats 8000000 in
set_option maxRecDepth 100000 in
theorem segment_New.calls (a0 : Int) (r1 : Int) (r2 : Int) (r3 : List Int) (w : World) (h : segment_New.f a0 = some (r1, r2, r3)) :
 Calls Try.prog 51 #[.int .i64 a0] w fun e w' => ∃ v2_ : Value, e = .returned (.agg #[.int .i64 r1, .int .i64 r2, v2_]) ∧ Kd.R (Kd.int .u8) 5 w' w.heap.size (fun _ => True) v2_ r3 ∧ Below w.heap.size w w' := by
 have hu43 := Try.underlying43
 have HB := Aside0.mk (Below.refl w.heap.size w)
 have H : (some (a0, a0, ([] : List Int))) = some (r1, r2, r3) := h
 clear h
 simp only [Option.some.injEq, Prod.mk.injEq] at H
 obtain ⟨rfl, rfl, rfl⟩ := H
 go_enter Try.func51, Try.ntmps51
 go_wp2_with (first | ((with_reducible refine gate_dst (N := 2) rfl ?_); refine Hlp.bx (N := 2) (cs := #[.int .i64 0, .int .i64 0, .slice none 0 0]) (t := 43) ?_; intro gb736 hg w2 hbox hb; have BK736 := Aside0.mk (hbox); have GW736 := Aside0.mk ((by rw [hg]; exact (below_size (Hlp.bl HB.out)) : w.heap.size ≤ gb736)); have GE736 := Aside0.mk ((by rw [hg]; exact (below_size (Hlp.bl HB.out)) : w.heap.size ≤ gb736)); replace HB := Aside0.mk (below_step (Hlp.bl HB.out) hb); clear hb hbox hg; have hcz3_0 : w2.cell? ⟨gb736, 0, none⟩ = some (.int .i64 0) := (blk_cell BK736.out 0).trans rfl; have hcz3_1 : w2.cell? ⟨gb736, 1, none⟩ = some (.int .i64 0) := (blk_cell BK736.out 1).trans rfl; have hcz3_2 : w2.cell? ⟨gb736, 2, none⟩ = some (.slice none 0 0) := (blk_cell BK736.out 2).trans rfl; have hfz3_0 := blk_frozen BK736.out 0; have hfz3_1 := blk_frozen BK736.out 1; have hfz3_2 := blk_frozen BK736.out 2))
 refine bodyPost_ret (results_cell_row rfl _ _ gb736 43 #[.int .i64 a0, .int .i64 a0, .slice none 0 0] (0, 0) _ rfl (by refine Hlp.bp (blk_put (cs := #[.int .i64 a0, .int .i64 a0, .slice none 0 0]) ?_ 2 _ rfl); refine Hlp.bp (blk_put (cs := #[.int .i64 a0, .int .i64 0, .slice none 0 0]) ?_ 1 _ rfl); refine Hlp.bp (blk_put (cs := #[.int .i64 0, .int .i64 0, .slice none 0 0]) ?_ 0 _ rfl); exact Hlp.bp BK736.out) Try.underlying43 rfl (by kernel_rfl)) rfl ?_
 exact ⟨_, by first | rfl | (simp [errW_none, errW_some] <;> rfl) | (simp [*, errW_none, errW_some] <;> rfl), by first | exact Kd.R_nil _ _ _ _ _ | exact Kd.N_nil _ _ _ _ _ | exact Kd.V_nil _ _ _ _ _ | exact Kd.Q_nil _ _ _ _ _ | exact Kd.S_nil _ _ _ _ _, Hlp.bl HB.out⟩


/-! ### segment_owned: function 78 -/
def segment_owned.f (l0 : List Int) (l1 : List Int) : Option (List Int) := if (l0.length : Int) + (l1.length : Int) ≤ 140737488355328 then (some (l0 ++ l1)) else (none)
set_option maxHeartbeats 8000000 in
set_option maxRecDepth 100000 in
theorem segment_owned.calls (A0 : Option Addr) (c0 : Nat) (l0 : List Int) (A1 : Option Addr) (c1 : Nat) (l1 : List Int) (r : List Int) (w : World) (hr0 : Kd.C (Kd.int .u8) w A0 l0.length l0) (hc0 : l0.length ≤ c0) (hr1 : Kd.C (Kd.int .u8) w A1 l1.length l1) (hc1 : l1.length ≤ c1) (h : segment_owned.f l0 l1 = some r) :
 Calls Try.prog 78 #[.slice A0 l0.length c0, .slice A1 l1.length c1] w fun e w' => ∃ v0_ : Value, e = .returned (v0_) ∧ Kd.R (Kd.int .u8) 5 w' w.heap.size (fun _ => True) v0_ r ∧ Below w.heap.size w w' := by
 have HR0 := Aside0.mk hr0
 have HC0 := Aside0.mk hc0
 have HR1 := Aside0.mk hr1
 have HC1 := Aside0.mk hc1
 clear hr0 hc0 hr1 hc1
 have HB := Aside0.mk (Below.refl w.heap.size w)
 unfold segment_owned.f at h
 by_cases c2 : (l0.length : Int) + (l1.length : Int) ≤ 140737488355328
 ·
  rw [if_pos c2] at h
  obtain rfl := Option.some.inj h
  clear h
  by_cases hz : l1.length = 0
  ·
   have HZ := Aside0.mk hz
   clear hz
   go_enter Try.func78, Try.ntmps78
   go_wp2_with (first | ((with_reducible refine gate_dst (N := 11) rfl ?_); refine Kd.R_make (Kd.int .u8) (w0 := w) w.heap.size 5 ?hg (N := 11) ?hd 28 (.tmp 10) (.tmp 10) ?ho (((l0.length : Nat) : Int) + ((l1.length : Nat) : Int)) ?hx ?hy Try.underlying28 (.int .u8 0) 1 info5 rfl (by decide) (by decide) (0 : Int) (ok := fun _ => True) (okp := fun _ => True) ?hz (fun _ hk => hk) trivial ?h0 ?hl ?hB (Nat.le_refl _) ?_; (case hd => rfl); (case hg => rfl); (case ho => rfl); (case hx => first | rfl | (go_simp; done)); (case hy => first | rfl | (go_simp; done)); (case hz => exact Hlp.zero_u8 _ _ _); (case h0 => omega); (case hl => omega); (case hB => exact Below.refl _ _); intro v109 w4 ho5 hb hg_ hnew_; clear hg_ hnew_; have HO110 := Aside0.mk ho5; clear HB; have HB := Aside0.mk hb; clear hb ho5) | ((with_reducible refine gate_builtin (b := .copy) (xs := #[.tmp 12, .tmp 13]) rfl ?_); refine Kd.R_copy (enc := Value.int .u8) (h1 := fun _ => rfl) (0 : Int) (w0 := w) w.heap.size ?gg (.tmp 12) (.tmp 13) 28 28 5 ?go Try.underlying28 ?gi v109 (List.replicate (((l0.length : Nat) : Int) + ((l1.length : Nat) : Int)).toNat (0 : Int)) l0 A0 l0.length c0 (fun _ => True) ?gs ?gx ?gO ?gR ?gB ?gb ?_; (case gg => rfl); (case go => rfl); (case gi => kernel_rfl); (case gs => rfl); (case gx => rfl); (case gO => exact HO110.out); (case gR => exact (Kd.C_below HR0.out HB.out)); (case gB => exact HB.out); (case gb => exact HB.out.size); intro w5 ho hb hg_; rw [Hlp.filled l0 l1] at ho; clear hg_; clear HB HO110; have HB := Aside0.mk hb; have HO113 := Aside0.mk ho; clear hb ho; obtain ⟨Ao, co, eo⟩ := Kd.R_slice HO113.out; subst eo; rw [show (l0 ++ List.replicate l1.length (0 : Int)).length = l0.length + l1.length from by simp]) | ((with_reducible refine gate_builtin (b := .copy) (xs := #[.tmp 18, .tmp 19]) rfl ?_); refine Hlp.R_copy_tail (enc := Value.int .u8) (h1 := fun _ => rfl) (0 : Int) (w0 := w) w.heap.size ?gg (.tmp 18) (.tmp 19) 28 28 5 ?go Try.underlying28 ?gi Ao _ co l0.length (l0 ++ List.replicate l1.length (0 : Int)) l1 A1 l1.length c1 (fun _ => True) _ _ ?gn ?gk ?gA rfl rfl ?gO ?gR ?gB ?gb ?_; (case gg => rfl); (case go => rfl); (case gi => kernel_rfl); (case gn => simp); (case gk => simp); (case gA => intro h_; exfalso; have hz_ := HZ.out; simp only [List.length_append, List.length_replicate] at h_; omega); (case gO => exact HO113.out); (case gR => exact (Kd.C_below HR1.out HB.out)); (case gB => exact HB.out); (case gb => exact HB.out.size); intro w6 ho hb hg_; rw [Hlp.filled2 l0 l1, show (l0 ++ List.replicate l1.length (0 : Int)).length = l0.length + l1.length from by simp] at ho; clear hg_; clear HB HO113; have HB := Aside0.mk hb; have HO114 := Aside0.mk ho; clear hb ho))
   all_goals go_ret
   all_goals exact ⟨_, by first | rfl | (simp [*]; done), by (with_reducible repeat (first | apply Kd.R_alloc | apply Kd.R_drewN | apply Kd.R_drew)); first | exact HO114.out | (have h_ := HO114.out; rw [show co = l0.length from by assumption] at h_; exact h_), Hlp.bl HB.out⟩
  ·
   have HZ := Aside0.mk hz
   clear hz
   go_enter Try.func78, Try.ntmps78
   go_wp2_with (first | ((with_reducible refine gate_dst (N := 11) rfl ?_); refine Kd.R_make (Kd.int .u8) (w0 := w) w.heap.size 5 ?hg (N := 11) ?hd 28 (.tmp 10) (.tmp 10) ?ho (((l0.length : Nat) : Int) + ((l1.length : Nat) : Int)) ?hx ?hy Try.underlying28 (.int .u8 0) 1 info5 rfl (by decide) (by decide) (0 : Int) (ok := fun _ => True) (okp := fun _ => True) ?hz (fun _ hk => hk) trivial ?h0 ?hl ?hB (Nat.le_refl _) ?_; (case hd => rfl); (case hg => rfl); (case ho => rfl); (case hx => first | rfl | (go_simp; done)); (case hy => first | rfl | (go_simp; done)); (case hz => exact Hlp.zero_u8 _ _ _); (case h0 => omega); (case hl => omega); (case hB => exact Below.refl _ _); intro v109 w4 ho5 hb hg_ hnew_; clear hg_ hnew_; have HO110 := Aside0.mk ho5; clear HB; have HB := Aside0.mk hb; clear hb ho5) | ((with_reducible refine gate_builtin (b := .copy) (xs := #[.tmp 12, .tmp 13]) rfl ?_); refine Kd.R_copy (enc := Value.int .u8) (h1 := fun _ => rfl) (0 : Int) (w0 := w) w.heap.size ?gg (.tmp 12) (.tmp 13) 28 28 5 ?go Try.underlying28 ?gi v109 (List.replicate (((l0.length : Nat) : Int) + ((l1.length : Nat) : Int)).toNat (0 : Int)) l0 A0 l0.length c0 (fun _ => True) ?gs ?gx ?gO ?gR ?gB ?gb ?_; (case gg => rfl); (case go => rfl); (case gi => kernel_rfl); (case gs => rfl); (case gx => rfl); (case gO => exact HO110.out); (case gR => exact (Kd.C_below HR0.out HB.out)); (case gB => exact HB.out); (case gb => exact HB.out.size); intro w5 ho hb hg_; rw [Hlp.filled l0 l1] at ho; clear hg_; clear HB HO110; have HB := Aside0.mk hb; have HO113 := Aside0.mk ho; clear hb ho; obtain ⟨Ao, co, eo⟩ := Kd.R_slice HO113.out; subst eo; have hne_ : (co = l0.length) = False := eq_false (by have hz_ := HZ.out; have h2_ := (Kd.R_reads' HO113.out).2.1; simp only [List.length_append, List.length_replicate] at h2_; omega); rw [show (l0 ++ List.replicate l1.length (0 : Int)).length = l0.length + l1.length from by simp]) | ((with_reducible refine gate_builtin (b := .copy) (xs := #[.tmp 18, .tmp 19]) rfl ?_); refine Hlp.R_copy_tail (enc := Value.int .u8) (h1 := fun _ => rfl) (0 : Int) (w0 := w) w.heap.size ?gg (.tmp 18) (.tmp 19) 28 28 5 ?go Try.underlying28 ?gi Ao _ co l0.length (l0 ++ List.replicate l1.length (0 : Int)) l1 A1 l1.length c1 (fun _ => True) _ _ ?gn ?gk ?gA rfl rfl ?gO ?gR ?gB ?gb ?_; (case gg => rfl); (case go => rfl); (case gi => kernel_rfl); (case gn => simp); (case gk => simp); (case gA => intro _; rfl); (case gO => exact HO113.out); (case gR => exact (Kd.C_below HR1.out HB.out)); (case gB => exact HB.out); (case gb => exact HB.out.size); intro w6 ho hb hg_; rw [Hlp.filled2 l0 l1, show (l0 ++ List.replicate l1.length (0 : Int)).length = l0.length + l1.length from by simp] at ho; clear hg_; clear HB HO113; have HB := Aside0.mk hb; have HO114 := Aside0.mk ho; clear hb ho))
   all_goals go_ret
   all_goals exact ⟨_, by first | rfl | (simp [*]; done), by (with_reducible repeat (first | apply Kd.R_alloc | apply Kd.R_drewN | apply Kd.R_drew)); first | exact HO114.out | (have h_ := HO114.out; rw [show co = l0.length from by assumption] at h_; exact h_), Hlp.bl HB.out⟩
 ·
  rw [if_neg c2] at h
  exact absurd h (by simp)


/-! ### segment_Append: function 53 -/
def segment_Append.f (k : Nat) (a0_0 : Int) (a0_1 : Int) (l0_2 : List Int) (a1 : Int) (a2 : ByteArray) (a3 : ByteArray) : Option (Int × Int × List Int × Int × Int) := (record_Encode.f k a0_1 a1 a2 a3).bind fun bt748 => (if bt748.2 = 0 then (if (wrap64 ((l0_2.length : Int) + (bt748.1.length : Int))) > 65536 then (some (0, 0, ([] : List Int), 0, 6)) else ((segment_owned.f l0_2 bt748.1).bind fun t752 => (some (a0_0, wrap64 (a0_1 + 1), t752, a0_1, 0)))) else (some (0, 0, ([] : List Int), 0, bt748.2)))
theorem segment_Append.mono : ∀ a0 a1 a2 a3 a4 a5 k, LeO (segment_Append.f k a0 a1 a2 a3 a4 a5) (segment_Append.f (k + 1) a0 a1 a2 a3 a4 a5) := by
 intro a0 a1 a2 a3 a4 a5 k
 unfold segment_Append.f
 repeat' first
  | (with_reducible exact record_Encode.mono _ _ _ _ _)
  | (with_reducible exact LeO.refl _)
  | (with_reducible exact LeO.none _)
  | (with_reducible refine LeO.ite ?_ ?_)
  | (with_reducible refine LeO.bind ?_ (fun _ => ?_))
  | exact record_Encode.mono _ _ _ _ _
  | exact LeO.none _
  | refine LeO.ite ?_ ?_
  | refine LeO.bind ?_ (fun _ => ?_)
def segment_Append.T6 : Bool × List (List Nat × List Nat) := (true, [([], []), ([0], [0]), ([], []), ([2], [2]), ([3], [3]), ([], []), ([5], [5]), ([], []), ([6, 7], [6, 7]), ([1, 4, 8], [1, 4, 8]), ([], []), ([10], [10]), ([9, 8, 0, 1, 2, 3, 4, 5, 6, 7, 8, 9], [9]), ([11, 12, 0, 1, 2, 3, 4, 5, 6, 7, 8, 9, 10, 11, 12], [11]), ([13, 0, 1, 2, 3, 4, 5, 6, 7, 8, 9, 10, 11, 12, 13], [])])
def segment_Append.B6 : List Nat := [0, 1, 0, 4, 12, 0, 32, 0, 224, 511, 0, 1024, 1023, 8191, 16383]
theorem segment_Append.tab6 : rtab .any (opsOf Try.f53 6) = segment_Append.T6 := by kernel_rfl
theorem segment_Append.bits6 : waitsOk segment_Append.T6.2 segment_Append.B6 = true := by kernel_rfl
set_option maxHeartbeats 8000000 in
set_option maxRecDepth 100000 in
theorem segment_Append.calls (k : Nat) (a0_0 : Int) (a0_1 : Int) (A0_2 : Option Addr) (c0_2 : Nat) (l0_2 : List Int) (a1 : Int) (a2 : ByteArray) (a3 : ByteArray) (r1 : Int) (r2 : Int) (r3 : List Int) (r4 : Int) (r5 : Int) (w : World) (hr0_2 : Kd.C (Kd.int .u8) w A0_2 l0_2.length l0_2) (hc0_2 : l0_2.length ≤ c0_2) (h : segment_Append.f k a0_0 a0_1 l0_2 a1 a2 a3 = some (r1, r2, r3, r4, r5)) :
 Calls Try.prog 53 #[.agg #[.int .i64 a0_0, .int .i64 a0_1, .slice A0_2 l0_2.length c0_2], .int .i64 a1, .string a2, .string a3] w fun e w' => ∃ v2_ : Value, e = .returned (.tuple #[.agg #[.int .i64 r1, .int .i64 r2, v2_], .int .i64 r4, .int .i64 r5]) ∧ Kd.R (Kd.int .u8) 5 w' w.heap.size (fun _ => True) v2_ r3 ∧ Below w.heap.size w w' := by
 have hu43 := Try.underlying43
 have hu23 := Try.underlying23
 have HR0_2 := Aside0.mk hr0_2
 have HC0_2 := Aside0.mk hc0_2
 clear hr0_2 hc0_2
 have HB := Aside0.mk (Below.refl w.heap.size w)
 have H : ((record_Encode.f k a0_1 a1 a2 a3).bind fun bt748 => (if bt748.2 = 0 then (if (wrap64 ((l0_2.length : Int) + (bt748.1.length : Int))) > 65536 then (some (0, 0, ([] : List Int), 0, 6)) else ((segment_owned.f l0_2 bt748.1).bind fun t752 => (some (a0_0, wrap64 (a0_1 + 1), t752, a0_1, 0)))) else (some (0, 0, ([] : List Int), 0, bt748.2)))) = some (r1, r2, r3, r4, r5) := h
 clear h
 replace H := Option.bind_eq_some_iff.mp H
 obtain ⟨⟨t748, t751⟩, A50, H⟩ := H
 replace H : (if t751 = 0 then (if (wrap64 ((l0_2.length : Int) + (t748.length : Int))) > 65536 then (some (0, 0, ([] : List Int), 0, 6)) else ((segment_owned.f l0_2 t748).bind fun t752 => (some (a0_0, wrap64 (a0_1 + 1), t752, a0_1, 0)))) else (some (0, 0, ([] : List Int), 0, t751))) = some (r1, r2, r3, r4, r5) := H
 have A5 := Aside0.mk A50
 clear A50
 by_cases c6 : t751 = 0
 ·
  rw [if_pos c6] at H
  have c6b0 : (t751 == 0) = true := beq_iff_eq.mpr c6
  have c6b1 : (t751 != 0) = false := bne_eq_false_iff_eq.mpr c6
  clear c6
  by_cases c7 : (wrap64 ((l0_2.length : Int) + (t748.length : Int))) > 65536
  ·
   rw [if_pos c7] at H
   have c7b0 : decide (65536 < (wrap64 ((l0_2.length : Int) + (t748.length : Int)))) = true := decide_eq_true c7
   clear c7
   simp only [Option.some.injEq, Prod.mk.injEq] at H
   obtain ⟨rfl, rfl, rfl, rfl, rfl⟩ := H
   go_enter Try.func53, Try.ntmps53
   go_wp2_with (first | ((with_reducible refine gate_dst (N := 4) rfl ?_); refine Hlp.bx (N := 4) (cs := #[.int .i64 a0_0, .int .i64 a0_1, .slice A0_2 l0_2.length c0_2]) (t := 43) ?_; intro gb746 hg w8 hbox hb; have BK746 := Aside0.mk (hbox); have GW746 := Aside0.mk ((by rw [hg]; exact (below_size (Hlp.bl HB.out)) : w.heap.size ≤ gb746)); have GE746 := Aside0.mk ((by rw [hg]; exact (below_size (Hlp.bl HB.out)) : w.heap.size ≤ gb746)); replace HB := Aside0.mk (below_step (Hlp.bl HB.out) hb); clear hb hbox hg) | ((with_reducible refine gate_dst (N := 8) rfl ?_); refine Hlp.bx (N := 8) (cs := #[.int .i64 0, .int .i64 0, .slice none 0 0]) (t := 43) ?_; intro gb747 hg w9 hbox hb; have BK747 := Aside0.mk (hbox); have GW747 := Aside0.mk ((by rw [hg]; exact (below_size (Hlp.bl HB.out)) : w.heap.size ≤ gb747)); have GE747 := Aside0.mk ((by rw [hg]; exact (below_size (Hlp.bl HB.out)) : w.heap.size ≤ gb747)); replace HB := Aside0.mk (below_step (Hlp.bl HB.out) hb); have NB746_747 := Aside0.mk ((by rw [hg]; exact Nat.ne_of_lt (blk_lt (g := gb746) (o := .cells #[.int .i64 a0_0, .int .i64 a0_1, .slice A0_2 l0_2.length c0_2] 43 (0, 0)) (Hlp.bp BK746.out)) : gb746 ≠ gb747)); have NB747_746 := Aside0.mk ((by rw [hg]; exact Nat.ne_of_gt (blk_lt (g := gb746) (o := .cells #[.int .i64 a0_0, .int .i64 a0_1, .slice A0_2 l0_2.length c0_2] 43 (0, 0)) (Hlp.bp BK746.out)) : gb747 ≠ gb746)); replace BK746 := Aside0.mk (blk_below (g := gb746) (o := .cells #[.int .i64 a0_0, .int .i64 a0_1, .slice A0_2 l0_2.length c0_2] 43 (0, 0)) (Hlp.bp BK746.out) hb); clear hb hbox hg; have hnb10 := NB746_747.out; have hnc10 := NB747_746.out; have hcz11_0 : w9.cell? ⟨gb746, 0, none⟩ = some (.int .i64 a0_0) := (blk_cell BK746.out 0).trans rfl; have hcz11_1 : w9.cell? ⟨gb746, 1, none⟩ = some (.int .i64 a0_1) := (blk_cell BK746.out 1).trans rfl; have hcz11_2 : w9.cell? ⟨gb746, 2, none⟩ = some (.slice A0_2 l0_2.length c0_2) := (blk_cell BK746.out 2).trans rfl; have hfz11_0 := blk_frozen BK746.out 0; have hfz11_1 := blk_frozen BK746.out 1; have hfz11_2 := blk_frozen BK746.out 2) | ((with_reducible refine gate_callee (f := 25) rfl ?_); refine Hlp.gl (some 20) Try.func25 #[.agg #[.int .i64 a0_1, .int .i64 a1, .string a2, .string a3]] ?_; (with_reducible refine (record_Encode.calls k a0_1 a1 a2 a3 t748 t751 _ A5.out).mono ?_); rintro e w12 ⟨v749, rfl, ho0, hb⟩; refine ⟨_, rfl, ?_⟩; have HO750 := Aside0.mk (Kd.R_lower ho0 (below_size (Hlp.bl HB.out))); replace BK746 := Aside0.mk (blk_below (g := gb746) (o := .cells #[.int .i64 a0_0, .int .i64 a0_1, .slice A0_2 l0_2.length c0_2] 43 (0, 0)) (Hlp.bp BK746.out) hb); replace BK747 := Aside0.mk (blk_below (g := gb747) (o := .cells #[.int .i64 0, .int .i64 0, .slice none 0 0] 43 (0, 0)) (Hlp.bp BK747.out) hb); replace HB := Aside0.mk (below_step (Hlp.bl HB.out) hb); (try clear hb); (try clear hb2); (try clear hk); (try clear hi); (try clear ho0); have hcz13_0 : w12.cell? ⟨gb746, 0, none⟩ = some (.int .i64 a0_0) := (blk_cell BK746.out 0).trans rfl; have hcz13_1 : w12.cell? ⟨gb746, 1, none⟩ = some (.int .i64 a0_1) := (blk_cell BK746.out 1).trans rfl; have hcz13_2 : w12.cell? ⟨gb746, 2, none⟩ = some (.slice A0_2 l0_2.length c0_2) := (blk_cell BK746.out 2).trans rfl; have hfz13_0 := blk_frozen BK746.out 0; have hfz13_1 := blk_frozen BK746.out 1; have hfz13_2 := blk_frozen BK746.out 2; obtain ⟨Ao14, co14, eo14⟩ := Kd.R_slice HO750.out; subst eo14; have hcz15_0 : w12.cell? ⟨gb747, 0, none⟩ = some (.int .i64 0) := (blk_cell BK747.out 0).trans rfl; have hcz15_1 : w12.cell? ⟨gb747, 1, none⟩ = some (.int .i64 0) := (blk_cell BK747.out 1).trans rfl; have hcz15_2 : w12.cell? ⟨gb747, 2, none⟩ = some (.slice none 0 0) := (blk_cell BK747.out 2).trans rfl; have hfz15_0 := blk_frozen BK747.out 0; have hfz15_1 := blk_frozen BK747.out 1; have hfz15_2 := blk_frozen BK747.out 2))
   refine bodyPost_ret (results_ctt rfl _ _ gb747 43 #[.int .i64 0, .int .i64 0, .slice none 0 0] (0, 0) _ rfl (by refine Hlp.bp (blk_put (cs := #[.int .i64 0, .int .i64 0, .slice none 0 0]) ?_ 2 _ rfl); refine Hlp.bp (blk_put (cs := #[.int .i64 0, .int .i64 0, .slice none 0 0]) ?_ 1 _ rfl); refine Hlp.bp (blk_put (cs := #[.int .i64 0, .int .i64 0, .slice none 0 0]) ?_ 0 _ rfl); exact Hlp.bp BK747.out) Try.underlying43 rfl (by kernel_rfl)) rfl ?_
   exact ⟨_, by first | rfl | (simp [errW_none, errW_some] <;> rfl) | (simp [*, errW_none, errW_some] <;> rfl), by first | exact Kd.R_nil _ _ _ _ _ | exact Kd.N_nil _ _ _ _ _ | exact Kd.V_nil _ _ _ _ _ | exact Kd.Q_nil _ _ _ _ _ | exact Kd.S_nil _ _ _ _ _, Hlp.bl HB.out⟩
  ·
   rw [if_neg c7] at H
   have c7b0 : decide (65536 < (wrap64 ((l0_2.length : Int) + (t748.length : Int)))) = false := decide_eq_false c7
   clear c7
   replace H := Option.bind_eq_some_iff.mp H
   obtain ⟨t752, A160, H⟩ := H
   replace H : (some (a0_0, wrap64 (a0_1 + 1), t752, a0_1, 0)) = some (r1, r2, r3, r4, r5) := H
   have A16 := Aside0.mk A160
   clear A160
   simp only [Option.some.injEq, Prod.mk.injEq] at H
   obtain ⟨rfl, rfl, rfl, rfl, rfl⟩ := H
   go_enter Try.func53, Try.ntmps53
   try go_wp2_with (first | ((with_reducible refine gate_dst (N := 4) rfl ?_); refine Hlp.bx (N := 4) (cs := #[.int .i64 a0_0, .int .i64 a0_1, .slice A0_2 l0_2.length c0_2]) (t := 43) ?_; intro gb746 hg w17 hbox hb; have BK746 := Aside0.mk (hbox); have GW746 := Aside0.mk ((by rw [hg]; exact (below_size (Hlp.bl HB.out)) : w.heap.size ≤ gb746)); have GE746 := Aside0.mk ((by rw [hg]; exact (below_size (Hlp.bl HB.out)) : w.heap.size ≤ gb746)); replace HB := Aside0.mk (below_step (Hlp.bl HB.out) hb); clear hb hbox hg) | ((with_reducible refine gate_dst (N := 8) rfl ?_); refine Hlp.bx (N := 8) (cs := #[.int .i64 0, .int .i64 0, .slice none 0 0]) (t := 43) ?_; intro gb747 hg w18 hbox hb; have BK747 := Aside0.mk (hbox); have GW747 := Aside0.mk ((by rw [hg]; exact (below_size (Hlp.bl HB.out)) : w.heap.size ≤ gb747)); have GE747 := Aside0.mk ((by rw [hg]; exact (below_size (Hlp.bl HB.out)) : w.heap.size ≤ gb747)); replace HB := Aside0.mk (below_step (Hlp.bl HB.out) hb); have NB746_747 := Aside0.mk ((by rw [hg]; exact Nat.ne_of_lt (blk_lt (g := gb746) (o := .cells #[.int .i64 a0_0, .int .i64 a0_1, .slice A0_2 l0_2.length c0_2] 43 (0, 0)) (Hlp.bp BK746.out)) : gb746 ≠ gb747)); have NB747_746 := Aside0.mk ((by rw [hg]; exact Nat.ne_of_gt (blk_lt (g := gb746) (o := .cells #[.int .i64 a0_0, .int .i64 a0_1, .slice A0_2 l0_2.length c0_2] 43 (0, 0)) (Hlp.bp BK746.out)) : gb747 ≠ gb746)); replace BK746 := Aside0.mk (blk_below (g := gb746) (o := .cells #[.int .i64 a0_0, .int .i64 a0_1, .slice A0_2 l0_2.length c0_2] 43 (0, 0)) (Hlp.bp BK746.out) hb); clear hb hbox hg; have hnb19 := NB746_747.out; have hnc19 := NB747_746.out; have hcz20_0 : w18.cell? ⟨gb746, 0, none⟩ = some (.int .i64 a0_0) := (blk_cell BK746.out 0).trans rfl; have hcz20_1 : w18.cell? ⟨gb746, 1, none⟩ = some (.int .i64 a0_1) := (blk_cell BK746.out 1).trans rfl; have hcz20_2 : w18.cell? ⟨gb746, 2, none⟩ = some (.slice A0_2 l0_2.length c0_2) := (blk_cell BK746.out 2).trans rfl; have hfz20_0 := blk_frozen BK746.out 0; have hfz20_1 := blk_frozen BK746.out 1; have hfz20_2 := blk_frozen BK746.out 2) | ((with_reducible refine gate_callee (f := 25) rfl ?_); refine Hlp.gl (some 20) Try.func25 #[.agg #[.int .i64 a0_1, .int .i64 a1, .string a2, .string a3]] ?_; (with_reducible refine (record_Encode.calls k a0_1 a1 a2 a3 t748 t751 _ A5.out).mono ?_); rintro e w21 ⟨v749, rfl, ho0, hb⟩; refine ⟨_, rfl, ?_⟩; have HO750 := Aside0.mk (Kd.R_lower ho0 (below_size (Hlp.bl HB.out))); replace BK746 := Aside0.mk (blk_below (g := gb746) (o := .cells #[.int .i64 a0_0, .int .i64 a0_1, .slice A0_2 l0_2.length c0_2] 43 (0, 0)) (Hlp.bp BK746.out) hb); replace BK747 := Aside0.mk (blk_below (g := gb747) (o := .cells #[.int .i64 0, .int .i64 0, .slice none 0 0] 43 (0, 0)) (Hlp.bp BK747.out) hb); replace HB := Aside0.mk (below_step (Hlp.bl HB.out) hb); (try clear hb); (try clear hb2); (try clear hk); (try clear hi); (try clear ho0); have hcz22_0 : w21.cell? ⟨gb746, 0, none⟩ = some (.int .i64 a0_0) := (blk_cell BK746.out 0).trans rfl; have hcz22_1 : w21.cell? ⟨gb746, 1, none⟩ = some (.int .i64 a0_1) := (blk_cell BK746.out 1).trans rfl; have hcz22_2 : w21.cell? ⟨gb746, 2, none⟩ = some (.slice A0_2 l0_2.length c0_2) := (blk_cell BK746.out 2).trans rfl; have hfz22_0 := blk_frozen BK746.out 0; have hfz22_1 := blk_frozen BK746.out 1; have hfz22_2 := blk_frozen BK746.out 2; obtain ⟨Ao23, co23, eo23⟩ := Kd.R_slice HO750.out; subst eo23))
   replace HO750 := Aside0.mk (Kd.R_drew HO750.out)
   replace BK746 := Aside0.mk (blk_drew BK746.out)
   replace BK747 := Aside0.mk (blk_drew BK747.out)
   replace HB := Aside0.mk (below_drew1 HB.out)
   refine start_ (n := 15) (S := fun w' => w'.cell? ⟨gb746, 0, none⟩ = some (.int .i64 a0_0) ∧ w'.cell? ⟨gb746, 1, none⟩ = some (.int .i64 a0_1) ∧ w'.cell? ⟨gb746, 2, none⟩ = some (.slice A0_2 l0_2.length c0_2)) (ds := []) #[false, false, false, false, false, false, false, false, false, false, false, false, false, false, false] (by kernel_rfl) rfl rfl ⟨(blk_cell BK746.out 0).trans rfl, (blk_cell BK746.out 1).trans rfl, (blk_cell BK746.out 2).trans rfl⟩ (fun hHeld => ?_); refine with_tabW segment_Append.tab6 segment_Append.bits6 (fun HT_ HW_ => ?_)
   generalize w21.drew = w24 at HO750 BK746 BK747 HB hHeld ⊢
   refine pure_ (i := 0) (N := some 35) (v := ?_) (a' := ?_) #[true, false, false, false, false, false, false, false, false, false, false, false, false, false, false] rfl rfl (any_of HT_.out (by kernel_rfl)) (fun _ _ _ h => h) (Or.inl ⟨by rfl, ?_⟩) ?_ ?_
   rotate_left
   ·
    intro w'
    go_simp
    with_reducible rfl
   rotate_left
   ·
    simp only [Act.put, List.setIfInBounds_toArray, List.set_cons_zero, List.set_cons_succ, i64_w, i32_w]
    rfl
   refine pure_ (i := 2) (N := some 37) (v := ?_) (a' := ?_) #[true, false, true, false, false, false, false, false, false, false, false, false, false, false, false] rfl rfl (any_of HT_.out (by kernel_rfl)) (fun _ _ _ h => h) (Or.inl ⟨by rfl, ?_⟩) ?_ ?_
   rotate_left
   ·
    intro w'
    go_simp
    with_reducible rfl
   rotate_left
   ·
    simp only [Act.put, List.setIfInBounds_toArray, List.set_cons_zero, List.set_cons_succ, i64_w, i32_w]
    rfl
   refine pure_ (i := 5) (N := some 40) (v := ?_) (a' := ?_) #[true, false, true, false, false, true, false, false, false, false, false, false, false, false, false] rfl rfl (any_of HT_.out (by kernel_rfl)) (fun _ _ _ h => h) (Or.inl ⟨by rfl, ?_⟩) ?_ ?_
   rotate_left
   ·
    intro w'
    go_simp
    with_reducible rfl
   rotate_left
   ·
    simp only [Act.put, List.setIfInBounds_toArray, List.set_cons_zero, List.set_cons_succ, i64_w, i32_w]
    rfl
   refine pure_ (i := 7) (N := some 42) (v := ?_) (a' := ?_) #[true, false, true, false, false, true, false, true, false, false, false, false, false, false, false] rfl rfl (any_of HT_.out (by kernel_rfl)) (fun _ _ _ h => h) (Or.inl ⟨by rfl, ?_⟩) ?_ ?_
   rotate_left
   ·
    intro w'
    go_simp
    with_reducible rfl
   rotate_left
   ·
    simp only [Act.put, List.setIfInBounds_toArray, List.set_cons_zero, List.set_cons_succ, i64_w, i32_w]
    rfl
   refine pure_ (i := 10) (N := some 45) (v := ?_) (a' := ?_) #[true, false, true, false, false, true, false, true, false, false, true, false, false, false, false] rfl rfl (any_of HT_.out (by kernel_rfl)) (fun _ _ _ h => h) (Or.inl ⟨by rfl, ?_⟩) ?_ ?_
   rotate_left
   ·
    intro w'
    go_simp
    with_reducible rfl
   rotate_left
   ·
    simp only [Act.put, List.setIfInBounds_toArray, List.set_cons_zero, List.set_cons_succ, i64_w, i32_w]
    rfl
   refine take_ (i := 1) (N := some 36) (v := ?_) (a' := ?_) #[true, true, true, false, false, true, false, true, false, false, true, false, false, false, false] rfl rfl (take_ofW HT_.out HW_.out (by kernel_rfl)) (fun _ _ _ h => h) (Or.inl ⟨by rfl, ?_⟩) hHeld ?_ ?_
   rotate_left
   ·
    rintro w' ⟨s0, s1, s2⟩
    go_simp
    with_reducible rfl
   rotate_left
   ·
    simp only [Act.put, List.setIfInBounds_toArray, List.set_cons_zero, List.set_cons_succ, i64_w, i32_w]
    rfl
   refine take_ (i := 3) (N := some 38) (v := ?_) (a' := ?_) #[true, true, true, true, false, true, false, true, false, false, true, false, false, false, false] rfl rfl (take_ofW HT_.out HW_.out (by kernel_rfl)) (fun _ _ _ h => h) (Or.inl ⟨by rfl, ?_⟩) hHeld ?_ ?_
   rotate_left
   ·
    rintro w' ⟨s0, s1, s2⟩
    go_simp
    with_reducible rfl
   rotate_left
   ·
    simp only [Act.put, List.setIfInBounds_toArray, List.set_cons_zero, List.set_cons_succ, i64_w, i32_w]
    rfl
   refine pure_ (i := 4) (N := some 39) (v := ?_) (a' := ?_) #[true, true, true, true, true, true, false, true, false, false, true, false, false, false, false] rfl rfl (any_of HT_.out (by kernel_rfl)) (fun _ _ _ h => h) (Or.inl ⟨by rfl, ?_⟩) ?_ ?_
   rotate_left
   ·
    intro w'
    go_simp
    with_reducible rfl
   rotate_left
   ·
    simp only [Act.put, List.setIfInBounds_toArray, List.set_cons_zero, List.set_cons_succ, i64_w, i32_w]
    rfl
   refine take_ (i := 6) (N := some 41) (v := ?_) (a' := ?_) #[true, true, true, true, true, true, true, true, false, false, true, false, false, false, false] rfl rfl (take_ofW HT_.out HW_.out (by kernel_rfl)) (fun _ _ _ h => h) (Or.inl ⟨by rfl, ?_⟩) hHeld ?_ ?_
   rotate_left
   ·
    rintro w' ⟨s0, s1, s2⟩
    go_simp
    with_reducible rfl
   rotate_left
   ·
    simp only [Act.put, List.setIfInBounds_toArray, List.set_cons_zero, List.set_cons_succ, i64_w, i32_w]
    rfl
   refine take_ (i := 11) (N := some 46) (v := ?_) (a' := ?_) #[true, true, true, true, true, true, true, true, false, false, true, true, false, false, false] rfl rfl (take_ofW HT_.out HW_.out (by kernel_rfl)) (fun _ _ _ h => h) (Or.inl ⟨by rfl, ?_⟩) hHeld ?_ ?_
   rotate_left
   ·
    rintro w' ⟨s0, s1, s2⟩
    go_simp
    with_reducible rfl
   rotate_left
   ·
    simp only [Act.put, List.setIfInBounds_toArray, List.set_cons_zero, List.set_cons_succ, i64_w, i32_w]
    rfl
   refine one_ (i := 8) (N := some 43) #[true, true, true, true, true, true, true, true, true, false, true, true, false, false, false] rfl rfl (one_of HT_.out (by kernel_rfl)) (by decide) (fun K hK => ?_)
   refine goes_ Try.func78 (by kernel_rfl) rfl #[.slice A0_2 l0_2.length c0_2, .slice Ao23 t748.length co23] (by rfl) rfl rfl (by (try simp only [List.map_toArray, List.map_cons, List.map_nil]); first | done | rfl | (simp only [List.length_drop, List.length_take]; rfl)) ?_
   with_reducible refine (segment_owned.calls _ _ l0_2 _ _ t748 t752 _ ?side1 ?side2 ?side3 ?side4 A16.out).mono ?_
   (case side1 => exact Hlp.cp (Kd.C_below HR0_2.out HB.out))
   (case side2 => exact HC0_2.out)
   (case side3 => exact Hlp.cp (Kd.R_reads' HO750.out).2.2)
   (case side4 => exact (Kd.R_reads' HO750.out).2.1)
   rintro e w25 ⟨v753, rfl, ho0, hb⟩
   refine ⟨_, rfl, ?_⟩
   have HO754 := Aside0.mk (Kd.R_lower (Kd.R_new' ho0 (Kd.R_lt (Hlp.rp HO750.out))) (below_size (Hlp.bl HB.out)))
   replace HO750 := Aside0.mk (Kd.R_elder' (Hlp.rp HO750.out) (Kd.R_base ho0) hb)
   replace BK746 := Aside0.mk (blk_below (g := gb746) (o := .cells #[.int .i64 a0_0, .int .i64 a0_1, .slice A0_2 l0_2.length c0_2] 43 (0, 0)) (Hlp.bp BK746.out) hb)
   replace BK747 := Aside0.mk (blk_below (g := gb747) (o := .cells #[.int .i64 0, .int .i64 0, .slice none 0 0] 43 (0, 0)) (Hlp.bp BK747.out) hb)
   replace HB := Aside0.mk (below_step (Hlp.bl HB.out) hb)
   (try clear hb)
   (try clear hb2)
   (try clear hk)
   (try clear hi)
   (try clear ho0)
   obtain ⟨Ao26, co26, eo26⟩ := Kd.R_slice HO754.out
   (first | subst eo26 | (injection eo26 with f1_ f2_ f3_; have f4_ := f1_.symm; have f5_ := f3_.symm; clear f1_ f2_ f3_; subst f4_; subst f5_))
   refine hK.out _ _ ⟨(blk_cell BK746.out 0).trans rfl, (blk_cell BK746.out 1).trans rfl, (blk_cell BK746.out 2).trans rfl⟩ (fun hHeld => ?_)
   clear hK K
   refine norm_ (a' := ?_) ?_ ?_
   rotate_left
   ·
    show Act.put _ (some 43) _ = _
    simp only [Act.put, List.setIfInBounds_toArray, List.set_cons_zero, List.set_cons_succ, i64_w, i32_w]
    rfl
   refine pure_ (i := 9) (N := some 44) (v := ?_) (a' := ?_) #[true, true, true, true, true, true, true, true, true, true, true, true, false, false, false] rfl rfl (any_of HT_.out (by kernel_rfl)) (fun _ _ _ h => h) (Or.inl ⟨by rfl, ?_⟩) ?_ ?_
   rotate_left
   ·
    intro w'
    go_simp
    with_reducible rfl
   rotate_left
   ·
    simp only [Act.put, List.setIfInBounds_toArray, List.set_cons_zero, List.set_cons_succ, i64_w, i32_w]
    rfl
   refine one_ (i := 12) (N := none) #[true, true, true, true, true, true, true, true, true, true, true, true, true, false, false] rfl rfl (one_of HT_.out (by kernel_rfl)) (by decide) (fun K hK => ?_)
   have hs27 : w25.cell? ⟨gb747, 0, none⟩ = some (.int .i64 0) := (blk_cell BK747.out 0).trans rfl
   have hfs27 := blk_frozen BK747.out 0
   have hns27_0 := NB746_747.out
   have hms27_0 := NB747_746.out
   have hs28 : w25.cell? ⟨gb747, 1, none⟩ = some (.int .i64 0) := (blk_cell BK747.out 1).trans rfl
   have hfs28 := blk_frozen BK747.out 1
   have hns28_0 := NB746_747.out
   have hms28_0 := NB747_746.out
   have hs29 : w25.cell? ⟨gb747, 2, none⟩ = some (.slice none 0 0) := (blk_cell BK747.out 2).trans rfl
   have hfs29 := blk_frozen BK747.out 2
   have hns29_0 := NB746_747.out
   have hms29_0 := NB747_746.out
   refine skip_ (w1 := ?_) (by rfl) rfl ?_ ?_
   rotate_left
   ·
    go_simp
    rfl
   refine hK.out _ _ ⟨((cell_far (p := ⟨gb747, _, none⟩) NB746_747.out _).trans (((cell_far (p := ⟨gb747, _, none⟩) NB746_747.out _).trans (((cell_far (p := ⟨gb747, _, none⟩) NB746_747.out _).trans (hHeld.1)))))), ((cell_far (p := ⟨gb747, _, none⟩) NB746_747.out _).trans (((cell_far (p := ⟨gb747, _, none⟩) NB746_747.out _).trans (((cell_far (p := ⟨gb747, _, none⟩) NB746_747.out _).trans (hHeld.2.1)))))), ((cell_far (p := ⟨gb747, _, none⟩) NB746_747.out _).trans (((cell_far (p := ⟨gb747, _, none⟩) NB746_747.out _).trans (((cell_far (p := ⟨gb747, _, none⟩) NB746_747.out _).trans (hHeld.2.2))))))⟩ (fun hHeld => ?_)
   clear hK K
   refine pure_ (i := 13) (N := some 9) (v := ?_) (a' := ?_) #[true, true, true, true, true, true, true, true, true, true, true, true, true, true, false] rfl rfl (any_of HT_.out (by kernel_rfl)) (fun _ _ _ h => h) (Or.inl ⟨by rfl, ?_⟩) ?_ ?_
   rotate_left
   ·
    intro w'
    go_simp
    with_reducible rfl
   rotate_left
   ·
    simp only [Act.put, List.setIfInBounds_toArray, List.set_cons_zero, List.set_cons_succ, i64_w, i32_w]
    rfl
   refine pure_ (i := 14) (N := some 10) (v := ?_) (a' := ?_) #[true, true, true, true, true, true, true, true, true, true, true, true, true, true, true] rfl rfl (any_of HT_.out (by kernel_rfl)) (fun _ _ _ h => h) (Or.inl ⟨by rfl, ?_⟩) ?_ ?_
   rotate_left
   ·
    intro w'
    go_simp
    with_reducible rfl
   rotate_left
   ·
    simp only [Act.put, List.setIfInBounds_toArray, List.set_cons_zero, List.set_cons_succ, i64_w, i32_w]
    rfl
   refine done_ (done_of HT_.out (by kernel_rfl)) ?_
   try go_wp2
   refine bodyPost_ret (results_ctt rfl _ _ gb747 43 #[.int .i64 a0_0, .int .i64 (wrap64 (a0_1 + 1)), .slice Ao26 t752.length co26] (0, 0) _ rfl (by refine Hlp.bp (blk_put (cs := #[.int .i64 a0_0, .int .i64 (wrap64 (a0_1 + 1)), .slice none 0 0]) ?_ 2 _ rfl); refine Hlp.bp (blk_put (cs := #[.int .i64 a0_0, .int .i64 0, .slice none 0 0]) ?_ 1 _ rfl); refine Hlp.bp (blk_put (cs := #[.int .i64 0, .int .i64 0, .slice none 0 0]) ?_ 0 _ rfl); exact Hlp.bp BK747.out) Try.underlying43 rfl (by kernel_rfl)) rfl ?_
   exact ⟨_, by first | rfl | (simp [errW_none, errW_some] <;> rfl) | (simp [*, errW_none, errW_some] <;> rfl), by (with_reducible repeat (first | apply Kd.R_alloc | apply Kd.R_drewN | apply Kd.R_drew)); exact Kd.R_mono (Kd.R_far (p := ⟨gb747, 2, none⟩) (Kd.R_far (p := ⟨gb747, 1, none⟩) (Kd.R_far (p := ⟨gb747, 0, none⟩) (Kd.R_types HO754.out BK747.out (by decide)) (fun _ hk => hk.2) (.int .i64 a0_0)) (fun _ hk => hk.2) (.int .i64 (wrap64 (a0_1 + 1)))) (fun _ hk => hk.2) (.slice Ao26 t752.length co26)) (fun _ hk => trivial), Hlp.bl HB.out⟩
 ·
  rw [if_neg c6] at H
  have c6b0 : (t751 == 0) = false := beq_eq_false_iff_ne.mpr c6
  have c6b1 : (t751 != 0) = true := bne_iff_ne.mpr c6
  simp only [Option.some.injEq, Prod.mk.injEq] at H
  obtain ⟨rfl, rfl, rfl, rfl, rfl⟩ := H
  go_enter Try.func53, Try.ntmps53
  go_wp2_with (first | ((with_reducible refine gate_dst (N := 4) rfl ?_); refine Hlp.bx (N := 4) (cs := #[.int .i64 a0_0, .int .i64 a0_1, .slice A0_2 l0_2.length c0_2]) (t := 43) ?_; intro gb746 hg w30 hbox hb; have BK746 := Aside0.mk (hbox); have GW746 := Aside0.mk ((by rw [hg]; exact (below_size (Hlp.bl HB.out)) : w.heap.size ≤ gb746)); have GE746 := Aside0.mk ((by rw [hg]; exact (below_size (Hlp.bl HB.out)) : w.heap.size ≤ gb746)); replace HB := Aside0.mk (below_step (Hlp.bl HB.out) hb); clear hb hbox hg) | ((with_reducible refine gate_dst (N := 8) rfl ?_); refine Hlp.bx (N := 8) (cs := #[.int .i64 0, .int .i64 0, .slice none 0 0]) (t := 43) ?_; intro gb747 hg w31 hbox hb; have BK747 := Aside0.mk (hbox); have GW747 := Aside0.mk ((by rw [hg]; exact (below_size (Hlp.bl HB.out)) : w.heap.size ≤ gb747)); have GE747 := Aside0.mk ((by rw [hg]; exact (below_size (Hlp.bl HB.out)) : w.heap.size ≤ gb747)); replace HB := Aside0.mk (below_step (Hlp.bl HB.out) hb); have NB746_747 := Aside0.mk ((by rw [hg]; exact Nat.ne_of_lt (blk_lt (g := gb746) (o := .cells #[.int .i64 a0_0, .int .i64 a0_1, .slice A0_2 l0_2.length c0_2] 43 (0, 0)) (Hlp.bp BK746.out)) : gb746 ≠ gb747)); have NB747_746 := Aside0.mk ((by rw [hg]; exact Nat.ne_of_gt (blk_lt (g := gb746) (o := .cells #[.int .i64 a0_0, .int .i64 a0_1, .slice A0_2 l0_2.length c0_2] 43 (0, 0)) (Hlp.bp BK746.out)) : gb747 ≠ gb746)); replace BK746 := Aside0.mk (blk_below (g := gb746) (o := .cells #[.int .i64 a0_0, .int .i64 a0_1, .slice A0_2 l0_2.length c0_2] 43 (0, 0)) (Hlp.bp BK746.out) hb); clear hb hbox hg; have hnb32 := NB746_747.out; have hnc32 := NB747_746.out; have hcz33_0 : w31.cell? ⟨gb746, 0, none⟩ = some (.int .i64 a0_0) := (blk_cell BK746.out 0).trans rfl; have hcz33_1 : w31.cell? ⟨gb746, 1, none⟩ = some (.int .i64 a0_1) := (blk_cell BK746.out 1).trans rfl; have hcz33_2 : w31.cell? ⟨gb746, 2, none⟩ = some (.slice A0_2 l0_2.length c0_2) := (blk_cell BK746.out 2).trans rfl; have hfz33_0 := blk_frozen BK746.out 0; have hfz33_1 := blk_frozen BK746.out 1; have hfz33_2 := blk_frozen BK746.out 2) | ((with_reducible refine gate_callee (f := 25) rfl ?_); refine Hlp.gl (some 20) Try.func25 #[.agg #[.int .i64 a0_1, .int .i64 a1, .string a2, .string a3]] ?_; (with_reducible refine (record_Encode.calls k a0_1 a1 a2 a3 t748 t751 _ A5.out).mono ?_); rintro e w34 ⟨v749, rfl, ho0, hb⟩; refine ⟨_, rfl, ?_⟩; have HO750 := Aside0.mk (Kd.R_lower ho0 (below_size (Hlp.bl HB.out))); replace BK746 := Aside0.mk (blk_below (g := gb746) (o := .cells #[.int .i64 a0_0, .int .i64 a0_1, .slice A0_2 l0_2.length c0_2] 43 (0, 0)) (Hlp.bp BK746.out) hb); replace BK747 := Aside0.mk (blk_below (g := gb747) (o := .cells #[.int .i64 0, .int .i64 0, .slice none 0 0] 43 (0, 0)) (Hlp.bp BK747.out) hb); replace HB := Aside0.mk (below_step (Hlp.bl HB.out) hb); (try clear hb); (try clear hb2); (try clear hk); (try clear hi); (try clear ho0); have hcz35_0 : w34.cell? ⟨gb747, 0, none⟩ = some (.int .i64 0) := (blk_cell BK747.out 0).trans rfl; have hcz35_1 : w34.cell? ⟨gb747, 1, none⟩ = some (.int .i64 0) := (blk_cell BK747.out 1).trans rfl; have hcz35_2 : w34.cell? ⟨gb747, 2, none⟩ = some (.slice none 0 0) := (blk_cell BK747.out 2).trans rfl; have hfz35_0 := blk_frozen BK747.out 0; have hfz35_1 := blk_frozen BK747.out 1; have hfz35_2 := blk_frozen BK747.out 2))
  refine bodyPost_ret (results_ctt rfl _ _ gb747 43 #[.int .i64 0, .int .i64 0, .slice none 0 0] (0, 0) _ rfl (by refine Hlp.bp (blk_put (cs := #[.int .i64 0, .int .i64 0, .slice none 0 0]) ?_ 2 _ rfl); refine Hlp.bp (blk_put (cs := #[.int .i64 0, .int .i64 0, .slice none 0 0]) ?_ 1 _ rfl); refine Hlp.bp (blk_put (cs := #[.int .i64 0, .int .i64 0, .slice none 0 0]) ?_ 0 _ rfl); exact Hlp.bp BK747.out) Try.underlying43 rfl (by kernel_rfl)) rfl ?_
  exact ⟨_, by first | rfl | (simp [errW_none, errW_some] <;> rfl) | (simp [*, errW_none, errW_some] <;> rfl), by first | exact Kd.R_nil _ _ _ _ _ | exact Kd.N_nil _ _ _ _ _ | exact Kd.V_nil _ _ _ _ _ | exact Kd.Q_nil _ _ _ _ _ | exact Kd.S_nil _ _ _ _ _, Hlp.bl HB.out⟩


/-! ### segment_Records: function 55 -/
def segment_Records.l0 : Nat → List (S23) → Int → Int → Int → List Int → Option ((List (S23)))
 | 0, _, _, _, _, _ => none
 | k + 1, x3, x4, x756000, x756001, x756002 => if x4 < (x756002.length : Int) then ((record_Decode.f k x756002 x4).bind fun bt756 => (if bt756.2.2.2.2.2 = 0 then (if x3.length < 2932031007402 then (segment_Records.l0 k (x3 ++ [(⟨bt756.1, bt756.2.1, bt756.2.2.1, bt756.2.2.2.1⟩ : S23)]) bt756.2.2.2.2.1 x756000 x756001 x756002) else (none)) else (some x3))) else (some x3)
def segment_Records.f (k : Nat) (a0_0 : Int) (a0_1 : Int) (l0_2 : List Int) : Option ((List (S23))) := segment_Records.l0 k ([] : List (S23)) 0 a0_0 a0_1 l0_2
theorem segment_Records.mono_l : ∀ k, (∀ y0 y1 y2 y3 y4, LeO (segment_Records.l0 k y0 y1 y2 y3 y4) (segment_Records.l0 (k + 1) y0 y1 y2 y3 y4))
 | 0 => fun _ _ _ _ _ r h => by simp [segment_Records.l0] at h
 | k + 1 => by
  have ih0 := segment_Records.mono_l k
  ·
   intro y0 y1 y2 y3 y4
   unfold segment_Records.l0
   repeat' first
   | (with_reducible exact ih0 _ _ _ _ _)
   | (with_reducible exact record_Decode.mono _ _ _)
   | (with_reducible exact LeO.refl _)
   | (with_reducible exact LeO.none _)
   | (with_reducible refine LeO.ite ?_ ?_)
   | (with_reducible refine LeO.bind ?_ (fun _ => ?_))
   | exact ih0 _ _ _ _ _
   | exact record_Decode.mono _ _ _
   | exact LeO.none _
   | refine LeO.ite ?_ ?_
   | refine LeO.bind ?_ (fun _ => ?_)
theorem segment_Records.mono : ∀ a0 a1 a2 k, LeO (segment_Records.f k a0 a1 a2) (segment_Records.f (k + 1) a0 a1 a2) := by
 intro a0 a1 a2 k
 have ih0 := segment_Records.mono_l k
 unfold segment_Records.f
 repeat' first
  | (with_reducible exact ih0 _ _ _ _ _)
  | (with_reducible exact record_Decode.mono _ _ _)
  | (with_reducible exact LeO.refl _)
  | (with_reducible exact LeO.none _)
  | (with_reducible refine LeO.ite ?_ ?_)
  | (with_reducible refine LeO.bind ?_ (fun _ => ?_))
  | exact ih0 _ _ _ _ _
  | exact record_Decode.mono _ _ _
  | exact LeO.none _
  | refine LeO.ite ?_ ?_
  | refine LeO.bind ?_ (fun _ => ?_)
set_option maxHeartbeats 8000000 in
set_option maxRecDepth 100000 in
theorem segment_Records.calls (k : Nat) (a0_0 : Int) (a0_1 : Int) (A0_2 : Option Addr) (c0_2 : Nat) (l0_2 : List Int) (r : List (S23)) (w : World) (hr0_2 : Kd.C (Kd.int .u8) w A0_2 l0_2.length l0_2) (hc0_2 : l0_2.length ≤ c0_2) (h : segment_Records.f k a0_0 a0_1 l0_2 = some r) :
 Calls Try.prog 55 #[.agg #[.int .i64 a0_0, .int .i64 a0_1, .slice A0_2 l0_2.length c0_2]] w fun e w' => ∃ v0_ : Value, e = .returned (v0_) ∧ Kd.R k23 23 w' w.heap.size (fun _ => True) v0_ r ∧ Below w.heap.size w w' := by
 have hu43 := Try.underlying43
 have hu23 := Try.underlying23
 have HR0_2 := Aside0.mk hr0_2
 have HC0_2 := Aside0.mk hc0_2
 clear hr0_2 hc0_2
 have HB := Aside0.mk (Below.refl w.heap.size w)
 have H : (segment_Records.l0 k ([] : List (S23)) 0 a0_0 a0_1 l0_2) = some r := h
 clear h
 have H' := Aside0.mk H
 clear H
 go_enter Try.func55, Try.ntmps55
 go_wp2_with (first | ((with_reducible refine gate_dst (N := 1) rfl ?_); refine Hlp.bx (N := 1) (cs := #[.int .i64 a0_0, .int .i64 a0_1, .slice A0_2 l0_2.length c0_2]) (t := 43) ?_; intro gb755 hg w2 hbox hb; have BK755 := Aside0.mk (hbox); have GW755 := Aside0.mk ((by rw [hg]; exact (below_size (Hlp.bl HB.out)) : w.heap.size ≤ gb755)); have GE755 := Aside0.mk ((by rw [hg]; exact (below_size (Hlp.bl HB.out)) : w.heap.size ≤ gb755)); replace HB := Aside0.mk (below_step (Hlp.bl HB.out) hb); clear hb hbox hg))
 go_loopg [3, 4] k (fun kq v3 v4 w' => ∃ (x3_1 : List (S23)) (x4_1 : Int), v4 = .int .i64 x4_1 ∧ Aside0 (segment_Records.l0 kq x3_1 x4_1 a0_0 a0_1 l0_2 = some r) ∧ Aside0 (kq ≤ k) ∧ Aside0 (Kd.R k23 23 w' w.heap.size (fun _ => True) v3 x3_1) ∧ Aside0 (w'.heap[gb755]? = some (.cells #[.int .i64 a0_0, .int .i64 a0_1, (.slice A0_2 l0_2.length c0_2)] 43 (0, 0))) ∧ Aside0 (Below w.heap.size w w'))
 case atStart => exact ⟨(([] : List (S23))), (0), (by first | rfl | (simp; done) | (simp [*]; done)), H', ⟨Nat.le_refl _⟩, ⟨by first | exact Kd.R_nil _ _ _ _ _ | exact Kd.N_nil _ _ _ _ _ | exact Kd.V_nil _ _ _ _ _ | exact Kd.Q_nil _ _ _ _ _ | exact Kd.S_nil _ _ _ _ _⟩, ⟨by exact Hlp.bp BK755.out⟩, ⟨Hlp.bl HB.out⟩⟩
 case round =>
  clear H'
  try clear p2
  obtain ⟨x3_1, x4_1, rfl, HA, HK1, HO_3, BK755, HB⟩ := hrel
  cases gk with
  | zero => exact absurd HA.out (by simp [segment_Records.l0])
  | succ k1 =>
   have H := HA.out
   clear HA
   simp only [segment_Records.l0] at H
   by_cases c3 : x4_1 < (l0_2.length : Int)
   ·
    rw [if_pos c3] at H
    have c3b0 : decide (x4_1 < (l0_2.length : Int)) = true := decide_eq_true c3
    clear c3
    replace H := Option.bind_eq_some_iff.mp H
    obtain ⟨⟨t756, t757, t758, t759, t760, t761⟩, A40, H⟩ := H
    replace H : (if t761 = 0 then (if x3_1.length < 2932031007402 then (segment_Records.l0 k1 (x3_1 ++ [(⟨t756, t757, t758, t759⟩ : S23)]) t760 a0_0 a0_1 l0_2) else (none)) else (some x3_1)) = some r := H
    have A4 := Aside0.mk A40
    clear A40
    by_cases c5 : t761 = 0
    ·
     rw [if_pos c5] at H
     have c5b0 : (t761 == 0) = true := beq_iff_eq.mpr c5
     have c5b1 : (t761 != 0) = false := bne_eq_false_iff_eq.mpr c5
     clear c5
     by_cases c6 : x3_1.length < 2932031007402
     ·
      rw [if_pos c6] at H
      have LMc6 := Aside0.mk c6
      clear c6
      obtain ⟨y763, hy763⟩ : ∃ y_ : List (S23), y_ = (x3_1 ++ [(⟨t756, t757, t758, t759⟩ : S23)]) := ⟨_, rfl⟩
      replace H : (segment_Records.l0 k1 y763 t760 a0_0 a0_1 l0_2) = some r := by first | (rw [hy763]; with_reducible exact H) | (have H2_ := (Option.bind_some _ _).symm.trans H; rw [hy763]; with_reducible exact H2_) | (have H2_ := (Option.bind_some _ _).symm.trans H; with_reducible exact H2_) | with_reducible exact H | (rw [hy763]; exact H) | exact H
      have Ny763 := Aside0.mk hy763
      clear hy763
      have H' := Aside0.mk H
      clear H
      have hcz7_0 : wr.cell? ⟨gb755, 0, none⟩ = some (.int .i64 a0_0) := (blk_cell BK755.out 0).trans rfl
      have hcz7_1 : wr.cell? ⟨gb755, 1, none⟩ = some (.int .i64 a0_1) := (blk_cell BK755.out 1).trans rfl
      have hcz7_2 : wr.cell? ⟨gb755, 2, none⟩ = some (.slice A0_2 l0_2.length c0_2) := (blk_cell BK755.out 2).trans rfl
      have hfz7_0 := blk_frozen BK755.out 0
      have hfz7_1 := blk_frozen BK755.out 1
      have hfz7_2 := blk_frozen BK755.out 2
      go_wp2_with (first | ((with_reducible refine gate_callee (f := 29) rfl ?_); refine Hlp.gl (some 17) Try.func29 #[.slice A0_2 l0_2.length c0_2, .int .i64 x4_1] ?_; (with_reducible refine (record_Decode.calls k1 _ _ l0_2 x4_1 t756 t757 t758 t759 t760 t761 _ ?side1 ?side2 A4.out).mono ?_); (case side1 => exact Hlp.cp (Kd.C_below HR0_2.out HB.out)); (case side2 => exact HC0_2.out); rintro e w8 ⟨rfl, hb⟩; refine ⟨_, rfl, ?_⟩; replace HO_3 := Aside0.mk (Kd.R_below (Hlp.rp HO_3.out) hb); replace BK755 := Aside0.mk (blk_below (g := gb755) (o := .cells #[.int .i64 a0_0, .int .i64 a0_1, .slice A0_2 l0_2.length c0_2] 43 (0, 0)) (Hlp.bp BK755.out) hb); replace HB := Aside0.mk (below_step (Hlp.bl HB.out) hb); (try clear hb); (try clear hb2); (try clear hk); (try clear hi)) | ((with_reducible refine gate_dst (N := 5) rfl ?_); refine Hlp.bx (N := 5) (cs := #[.int .i64 0, .int .i64 0, .string (⟨#[]⟩ : ByteArray), .string (⟨#[]⟩ : ByteArray)]) (t := 23) ?_; intro gb762 hg w9 hbox hb; replace HO_3 := Aside0.mk (Kd.R_below (Kd.R_elderB (Hlp.rp HO_3.out) gb762 (Nat.le_of_eq hg.symm)) hb); have BK762 := Aside0.mk (hbox); have GW762 := Aside0.mk ((by rw [hg]; exact (below_size (Hlp.bl HB.out)) : w.heap.size ≤ gb762)); have GE762 := Aside0.mk ((by rw [hg]; exact (below_size (Hlp.bl HB.out)) : w.heap.size ≤ gb762)); replace HB := Aside0.mk (below_step (Hlp.bl HB.out) hb); have NB755_762 := Aside0.mk ((by rw [hg]; exact Nat.ne_of_lt (blk_lt (g := gb755) (o := .cells #[.int .i64 a0_0, .int .i64 a0_1, .slice A0_2 l0_2.length c0_2] 43 (0, 0)) (Hlp.bp BK755.out)) : gb755 ≠ gb762)); have NB762_755 := Aside0.mk ((by rw [hg]; exact Nat.ne_of_gt (blk_lt (g := gb755) (o := .cells #[.int .i64 a0_0, .int .i64 a0_1, .slice A0_2 l0_2.length c0_2] 43 (0, 0)) (Hlp.bp BK755.out)) : gb762 ≠ gb755)); replace BK755 := Aside0.mk (blk_below (g := gb755) (o := .cells #[.int .i64 a0_0, .int .i64 a0_1, .slice A0_2 l0_2.length c0_2] 43 (0, 0)) (Hlp.bp BK755.out) hb); clear hb hbox hg; have hnb10 := NB762_755.out; have hnc10 := NB755_762.out; have hcz11_0 : w9.cell? ⟨gb762, 0, none⟩ = some (.int .i64 0) := (blk_cell BK762.out 0).trans rfl; have hcz11_1 : w9.cell? ⟨gb762, 1, none⟩ = some (.int .i64 0) := (blk_cell BK762.out 1).trans rfl; have hcz11_2 : w9.cell? ⟨gb762, 2, none⟩ = some (.string (⟨#[]⟩ : ByteArray)) := (blk_cell BK762.out 2).trans rfl; have hcz11_3 : w9.cell? ⟨gb762, 3, none⟩ = some (.string (⟨#[]⟩ : ByteArray)) := (blk_cell BK762.out 3).trans rfl; have hfz11_0 := blk_frozen BK762.out 0; have hfz11_1 := blk_frozen BK762.out 1; have hfz11_2 := blk_frozen BK762.out 2; have hfz11_3 := blk_frozen BK762.out 3) | ((with_reducible refine gate_builtin (b := .append) (xs := #[.tmp 23, .tmp 25]) rfl ?_); at_builtin; refine Kd.R_append k23 (w0 := w) w.heap.size rfl (.tmp 23) (.tmp 25) 58 23 (.agg #[(.int .i64 0), (.int .i64 0), (.string ⟨#[]⟩), (.string ⟨#[]⟩)]) 48 rfl Try.underlying58 info23 rfl (by decide) (by omega) u3 x3_1 (⟨t756, t757, t758, t759⟩ : S23) [.int .i64 t756, .int .i64 t757, .string t758, .string t759] (fun k_ => k_ ≠ gb762) (fun _ => False) rfl (by first | (go_simp; done) | (go_simp; rfl)) ?aP (fun _ hk => hk.elim) ?aF ?aO ?aB ?aS ?aL ?_; (case aP => exact k23_mkM _ _ _ (⟨t756, t757, t758, t759⟩ : S23)); (case aB => exact (Hlp.bl HB.out)); (case aF => exact (fun k_ hk => Kd.freshB (g := gb762) (o := .cells #[.int .i64 t756, .int .i64 t757, .string t758, .string t759] 23 (0, 0)) (by refine Hlp.bp (blk_put (cs := #[.int .i64 t756, .int .i64 t757, .string t758, .string (⟨#[]⟩ : ByteArray)]) ?_ 3 _ rfl); refine Hlp.bp (blk_put (cs := #[.int .i64 t756, .int .i64 t757, .string (⟨#[]⟩ : ByteArray), .string (⟨#[]⟩ : ByteArray)]) ?_ 2 _ rfl); refine Hlp.bp (blk_put (cs := #[.int .i64 t756, .int .i64 0, .string (⟨#[]⟩ : ByteArray), .string (⟨#[]⟩ : ByteArray)]) ?_ 1 _ rfl); refine Hlp.bp (blk_put (cs := #[.int .i64 0, .int .i64 0, .string (⟨#[]⟩ : ByteArray), .string (⟨#[]⟩ : ByteArray)]) ?_ 0 _ rfl); exact Hlp.bp BK762.out) k_ hk)); (case aO => exact (by (with_reducible repeat (first | apply Kd.R_alloc | apply Kd.R_drewN | apply Kd.R_drew)); exact Kd.R_mono (Kd.R_far (p := ⟨gb762, 3, none⟩) (Kd.R_far (p := ⟨gb762, 2, none⟩) (Kd.R_far (p := ⟨gb762, 1, none⟩) (Kd.R_far (p := ⟨gb762, 0, none⟩) (Kd.R_mono HO_3.out (fun k_ hk => (⟨hk, hk.2⟩ : _ ∧ k_ ≠ gb762))) (fun _ hk => hk.2) (.int .i64 t756)) (fun _ hk => hk.2) (.int .i64 t757)) (fun _ hk => hk.2) (.string t758)) (fun _ hk => hk.2) (.string t759)) (fun _ hk => hk.1.2))); (case aS => exact (below_size (Hlp.bl HB.out))); (case aL => have := LMc6.out; omega); intro v764 w12 ho hb hg hat; rw [← Ny763.out] at ho; have n0_ := Aside0.mk (blk_grown (g := gb755) (o := .cells #[.int .i64 a0_0, .int .i64 a0_1, .slice A0_2 l0_2.length c0_2] 43 (0, 0)) (by refine Hlp.bp (blk_far ?_ NB755_762.out _); refine Hlp.bp (blk_far ?_ NB755_762.out _); refine Hlp.bp (blk_far ?_ NB755_762.out _); refine Hlp.bp (blk_far ?_ NB755_762.out _); exact Hlp.bp BK755.out) hg (Kd.R_ne HO_3.out BK755.out (by decide))); have n1_ := Aside0.mk (blk_grown (g := gb762) (o := .cells #[.int .i64 t756, .int .i64 t757, .string t758, .string t759] 23 (0, 0)) (by refine Hlp.bp (blk_put (cs := #[.int .i64 t756, .int .i64 t757, .string t758, .string (⟨#[]⟩ : ByteArray)]) ?_ 3 _ rfl); refine Hlp.bp (blk_put (cs := #[.int .i64 t756, .int .i64 t757, .string (⟨#[]⟩ : ByteArray), .string (⟨#[]⟩ : ByteArray)]) ?_ 2 _ rfl); refine Hlp.bp (blk_put (cs := #[.int .i64 t756, .int .i64 0, .string (⟨#[]⟩ : ByteArray), .string (⟨#[]⟩ : ByteArray)]) ?_ 1 _ rfl); refine Hlp.bp (blk_put (cs := #[.int .i64 0, .int .i64 0, .string (⟨#[]⟩ : ByteArray), .string (⟨#[]⟩ : ByteArray)]) ?_ 0 _ rfl); exact Hlp.bp BK762.out) hg (Kd.R_away HO_3.out (fun _ hk => hk.2))); have n2_ := Aside0.mk (hb); have n3_ := Aside0.mk (ho); clear BK755; clear BK762; clear HB; clear HO_3; have BK755 := n0_; have BK762 := n1_; have HB := n2_; have HO765 := n3_; clear n0_ n1_ n2_ n3_; clear ho hb hg hat))
      go_roundg k1
      case measure => have := HK1.out; omega
      case rel => exact ⟨(y763), (t760), (by first | rfl | (simp; done) | (simp [*]; done)), H', ⟨by have := HK1.out; omega⟩, ⟨by (with_reducible repeat (first | apply Kd.R_alloc | apply Kd.R_drewN | apply Kd.R_drew)); exact Kd.R_mono HO765.out (fun _ hk => trivial)⟩, ⟨by exact Hlp.bp BK755.out⟩, ⟨Hlp.bl HB.out⟩⟩
     ·
      rw [if_neg c6] at H
      exact absurd H (by simp)
    ·
     rw [if_neg c5] at H
     have c5b0 : (t761 == 0) = false := beq_eq_false_iff_ne.mpr c5
     have c5b1 : (t761 != 0) = true := bne_iff_ne.mpr c5
     obtain rfl := Option.some.inj H
     have hcz13_0 : wr.cell? ⟨gb755, 0, none⟩ = some (.int .i64 a0_0) := (blk_cell BK755.out 0).trans rfl
     have hcz13_1 : wr.cell? ⟨gb755, 1, none⟩ = some (.int .i64 a0_1) := (blk_cell BK755.out 1).trans rfl
     have hcz13_2 : wr.cell? ⟨gb755, 2, none⟩ = some (.slice A0_2 l0_2.length c0_2) := (blk_cell BK755.out 2).trans rfl
     have hfz13_0 := blk_frozen BK755.out 0
     have hfz13_1 := blk_frozen BK755.out 1
     have hfz13_2 := blk_frozen BK755.out 2
     go_wp2_with (first | ((with_reducible refine gate_callee (f := 29) rfl ?_); refine Hlp.gl (some 17) Try.func29 #[.slice A0_2 l0_2.length c0_2, .int .i64 x4_1] ?_; (with_reducible refine (record_Decode.calls k1 _ _ l0_2 x4_1 t756 t757 t758 t759 t760 t761 _ ?side1 ?side2 A4.out).mono ?_); (case side1 => exact Hlp.cp (Kd.C_below HR0_2.out HB.out)); (case side2 => exact HC0_2.out); rintro e w14 ⟨rfl, hb⟩; refine ⟨_, rfl, ?_⟩; replace HO_3 := Aside0.mk (Kd.R_below (Hlp.rp HO_3.out) hb); replace BK755 := Aside0.mk (blk_below (g := gb755) (o := .cells #[.int .i64 a0_0, .int .i64 a0_1, .slice A0_2 l0_2.length c0_2] 43 (0, 0)) (Hlp.bp BK755.out) hb); replace HB := Aside0.mk (below_step (Hlp.bl HB.out) hb); (try clear hb); (try clear hb2); (try clear hk); (try clear hi)) | ((with_reducible refine gate_dst (N := 5) rfl ?_); refine Hlp.bx (N := 5) (cs := #[.int .i64 0, .int .i64 0, .string (⟨#[]⟩ : ByteArray), .string (⟨#[]⟩ : ByteArray)]) (t := 23) ?_; intro gb762 hg w15 hbox hb; replace HO_3 := Aside0.mk (Kd.R_below (Kd.R_elderB (Hlp.rp HO_3.out) gb762 (Nat.le_of_eq hg.symm)) hb); have BK762 := Aside0.mk (hbox); have GW762 := Aside0.mk ((by rw [hg]; exact (below_size (Hlp.bl HB.out)) : w.heap.size ≤ gb762)); have GE762 := Aside0.mk ((by rw [hg]; exact (below_size (Hlp.bl HB.out)) : w.heap.size ≤ gb762)); replace HB := Aside0.mk (below_step (Hlp.bl HB.out) hb); have NB755_762 := Aside0.mk ((by rw [hg]; exact Nat.ne_of_lt (blk_lt (g := gb755) (o := .cells #[.int .i64 a0_0, .int .i64 a0_1, .slice A0_2 l0_2.length c0_2] 43 (0, 0)) (Hlp.bp BK755.out)) : gb755 ≠ gb762)); have NB762_755 := Aside0.mk ((by rw [hg]; exact Nat.ne_of_gt (blk_lt (g := gb755) (o := .cells #[.int .i64 a0_0, .int .i64 a0_1, .slice A0_2 l0_2.length c0_2] 43 (0, 0)) (Hlp.bp BK755.out)) : gb762 ≠ gb755)); replace BK755 := Aside0.mk (blk_below (g := gb755) (o := .cells #[.int .i64 a0_0, .int .i64 a0_1, .slice A0_2 l0_2.length c0_2] 43 (0, 0)) (Hlp.bp BK755.out) hb); clear hb hbox hg; have hnb16 := NB762_755.out; have hnc16 := NB755_762.out; have hcz17_0 : w15.cell? ⟨gb762, 0, none⟩ = some (.int .i64 0) := (blk_cell BK762.out 0).trans rfl; have hcz17_1 : w15.cell? ⟨gb762, 1, none⟩ = some (.int .i64 0) := (blk_cell BK762.out 1).trans rfl; have hcz17_2 : w15.cell? ⟨gb762, 2, none⟩ = some (.string (⟨#[]⟩ : ByteArray)) := (blk_cell BK762.out 2).trans rfl; have hcz17_3 : w15.cell? ⟨gb762, 3, none⟩ = some (.string (⟨#[]⟩ : ByteArray)) := (blk_cell BK762.out 3).trans rfl; have hfz17_0 := blk_frozen BK762.out 0; have hfz17_1 := blk_frozen BK762.out 1; have hfz17_2 := blk_frozen BK762.out 2; have hfz17_3 := blk_frozen BK762.out 3))
     go_ret
     exact ⟨_, by first | rfl | (simp [errW_none, errW_some] <;> rfl) | (simp [*, errW_none, errW_some] <;> rfl), by (with_reducible repeat (first | apply Kd.R_alloc | apply Kd.R_drewN | apply Kd.R_drew)); exact Kd.R_mono (Kd.R_far (p := ⟨gb762, 3, none⟩) (Kd.R_far (p := ⟨gb762, 2, none⟩) (Kd.R_far (p := ⟨gb762, 1, none⟩) (Kd.R_far (p := ⟨gb762, 0, none⟩) (Kd.R_mono HO_3.out (fun k_ hk => (⟨hk, hk.2⟩ : _ ∧ k_ ≠ gb762))) (fun _ hk => hk.2) (.int .i64 t756)) (fun _ hk => hk.2) (.int .i64 t757)) (fun _ hk => hk.2) (.string t758)) (fun _ hk => hk.2) (.string t759)) (fun _ hk => trivial), Hlp.bl HB.out⟩
   ·
    rw [if_neg c3] at H
    have c3b0 : decide (x4_1 < (l0_2.length : Int)) = false := decide_eq_false c3
    clear c3
    obtain rfl := Option.some.inj H
    have hcz18_0 : wr.cell? ⟨gb755, 0, none⟩ = some (.int .i64 a0_0) := (blk_cell BK755.out 0).trans rfl
    have hcz18_1 : wr.cell? ⟨gb755, 1, none⟩ = some (.int .i64 a0_1) := (blk_cell BK755.out 1).trans rfl
    have hcz18_2 : wr.cell? ⟨gb755, 2, none⟩ = some (.slice A0_2 l0_2.length c0_2) := (blk_cell BK755.out 2).trans rfl
    have hfz18_0 := blk_frozen BK755.out 0
    have hfz18_1 := blk_frozen BK755.out 1
    have hfz18_2 := blk_frozen BK755.out 2
    go_wp2
    go_ret
    exact ⟨_, by first | rfl | (simp [errW_none, errW_some] <;> rfl) | (simp [*, errW_none, errW_some] <;> rfl), by (with_reducible repeat (first | apply Kd.R_alloc | apply Kd.R_drewN | apply Kd.R_drew)); exact HO_3.out, Hlp.bl HB.out⟩

end Go.Proofs.Ytkkelbakadbbhaa.J
