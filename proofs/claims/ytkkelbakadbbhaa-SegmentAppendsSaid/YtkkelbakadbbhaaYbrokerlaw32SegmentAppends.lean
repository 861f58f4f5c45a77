/- Lean functions that compute what the Go functions named below compute; each theorem '.calls': if its Lean function has an answer, the Go function returns it. -/
import Derived.Test.YtkkelbakadbbhaaYx0
import Derived.Test.YtkkelbakadbbhaaH
import Derived.Test.YtkkelbakadbbhaaYbrokerlaw32awake
import Derived.Test.YtkkelbakadbbhaaYref320
import Derived.Test.YtkkelbakadbbhaaYref322
import Derived.Test.YtkkelbakadbbhaaYsegment0
namespace Go.Proofs.Ytkkelbakadbbhaa.J
open Go.RowKit Go.Proofs.YtkkelbakadbbhaaW.PrintWords Go.Proofs.YtkkelbakadbbhaaW.PrintLast Go.Proofs.YtkkelbakadbbhaaW.PrintMore
attribute [local go_sem] max2_int min2_int max_two min_two max_three min_three max_four min_four   -- for this text's walks alone
set_option linter.unusedVariables false
set_option linter.unusedSimpArgs false

/-! ### brokerlaw32_SegmentAppends: function 15 -/
def brokerlaw32_SegmentAppends.j0 : Nat → Bool → Int → Int → List Int → Int → Int → ByteArray → ByteArray → Option (Bool)
 | 0, _, _, _, _, _, _, _, _ => none
 | k + 1, x32, x855000, x855001, x855002, x856000, x856001, x856002, x856003 => if x32 = true then ((brokerlaw32_awake.f k).bind fun t857 => (some t857)) else ((some (([] : List Int) : List Int)).bind fun y858 => (if y858.length + x855002.length < 140737488355328 then ((some (y858 ++ x855002 : List Int)).bind fun y861 => ((segment_Append.f k x855000 x855001 y861 x856001 x856002 x856003).bind fun bt864 => ((brokerref32_Append.f k x855000 x855001 x855002 x856001 x856002 x856003).bind fun bt872 => ((brokerref32_Same.f bt864.1 bt864.2.1 bt864.2.2.1 bt872.1 bt872.2.1 bt872.2.2.1).bind fun t880 => (if t880 = true then (if bt864.2.2.2.1 = bt872.2.2.2.1 then (if bt864.2.2.2.2 = bt872.2.2.2.2 then (if (strOfNums y861).toList = (strOfNums x855002).toList then ((brokerlaw32_awake.f k).bind fun t881 => (some t881)) else (none)) else (none)) else (none)) else (none)))))) else (none)))
def brokerlaw32_SegmentAppends.f (k : Nat) (a0_0 : Int) (a0_1 : Int) (l0_2 : List Int) (a1_0 : Int) (a1_1 : Int) (a1_2 : ByteArray) (a1_3 : ByteArray) : Option (Bool) := if (l0_2.length : Int) > 4000 then (brokerlaw32_SegmentAppends.j0 k true a0_0 a0_1 l0_2 a1_0 a1_1 a1_2 a1_3) else (if (a1_2.size : Int) > 4000 then (brokerlaw32_SegmentAppends.j0 k true a0_0 a0_1 l0_2 a1_0 a1_1 a1_2 a1_3) else (if (a1_3.size : Int) > 4200 then (brokerlaw32_SegmentAppends.j0 k true a0_0 a0_1 l0_2 a1_0 a1_1 a1_2 a1_3) else ((brokerref32_Check.f k a0_0 a0_1 l0_2).bind fun t856 => (brokerlaw32_SegmentAppends.j0 k (t856 != 0) a0_0 a0_1 l0_2 a1_0 a1_1 a1_2 a1_3))))
theorem brokerlaw32_SegmentAppends.mono_l : ∀ k, (∀ y0 y1 y2 y3 y4 y5 y6 y7, LeO (brokerlaw32_SegmentAppends.j0 k y0 y1 y2 y3 y4 y5 y6 y7) (brokerlaw32_SegmentAppends.j0 (k + 1) y0 y1 y2 y3 y4 y5 y6 y7))
 | 0 => fun _ _ _ _ _ _ _ _ r h => by simp [brokerlaw32_SegmentAppends.j0] at h
 | k + 1 => by
  have ih0 := brokerlaw32_SegmentAppends.mono_l k
  ·
   intro y0 y1 y2 y3 y4 y5 y6 y7
   unfold brokerlaw32_SegmentAppends.j0
   repeat' first
   | (with_reducible exact ih0 _ _ _ _ _ _ _ _)
   | (with_reducible exact brokerlaw32_awake.mono _)
   | (with_reducible exact brokerref32_Append.mono _ _ _ _ _ _ _)
   | (with_reducible exact brokerref32_Check.mono _ _ _ _)
   | (with_reducible exact segment_Append.mono _ _ _ _ _ _ _)
   | (with_reducible exact LeO.refl _)
   | (with_reducible exact LeO.none _)
   | (with_reducible refine LeO.ite ?_ ?_)
   | (with_reducible refine LeO.bind ?_ (fun _ => ?_))
   | exact ih0 _ _ _ _ _ _ _ _
   | exact brokerlaw32_awake.mono _
   | exact brokerref32_Append.mono _ _ _ _ _ _ _
   | exact brokerref32_Check.mono _ _ _ _
   | exact segment_Append.mono _ _ _ _ _ _ _
   | exact LeO.none _
   | refine LeO.ite ?_ ?_
   | refine LeO.bind ?_ (fun _ => ?_)
theorem brokerlaw32_SegmentAppends.mono : ∀ a0 a1 a2 a3 a4 a5 a6 k, LeO (brokerlaw32_SegmentAppends.f k a0 a1 a2 a3 a4 a5 a6) (brokerlaw32_SegmentAppends.f (k + 1) a0 a1 a2 a3 a4 a5 a6) := by
 intro a0 a1 a2 a3 a4 a5 a6 k
 have ih0 := brokerlaw32_SegmentAppends.mono_l k
 unfold brokerlaw32_SegmentAppends.f
 repeat' first
  | (with_reducible exact ih0 _ _ _ _ _ _ _ _)
  | (with_reducible exact brokerlaw32_awake.mono _)
  | (with_reducible exact brokerref32_Append.mono _ _ _ _ _ _ _)
  | (with_reducible exact brokerref32_Check.mono _ _ _ _)
  | (with_reducible exact segment_Append.mono _ _ _ _ _ _ _)
  | (with_reducible exact LeO.refl _)
  | (with_reducible exact LeO.none _)
  | (with_reducible refine LeO.ite ?_ ?_)
  | (with_reducible refine LeO.bind ?_ (fun _ => ?_))
  | exact ih0 _ _ _ _ _ _ _ _
  | exact brokerlaw32_awake.mono _
  | exact brokerref32_Append.mono _ _ _ _ _ _ _
  | exact brokerref32_Check.mono _ _ _ _
  | exact segment_Append.mono _ _ _ _ _ _ _
  | exact LeO.none _
  | refine LeO.ite ?_ ?_
  | refine LeO.bind ?_ (fun _ => ?_)
set_option maxHeartbeats 8000000 in
set_option maxRecDepth 100000 in
theorem brokerlaw32_SegmentAppends.calls (k : Nat) (a0_0 : Int) (a0_1 : Int) (A0_2 : Option Addr) (c0_2 : Nat) (l0_2 : List Int) (a1_0 : Int) (a1_1 : Int) (a1_2 : ByteArray) (a1_3 : ByteArray) (r : Bool) (w : World) (hr0_2 : Kd.C (Kd.int .u8) w A0_2 l0_2.length l0_2) (hc0_2 : l0_2.length ≤ c0_2) (h : brokerlaw32_SegmentAppends.f k a0_0 a0_1 l0_2 a1_0 a1_1 a1_2 a1_3 = some r) :
 Calls Try.prog 15 #[.agg #[.int .i64 a0_0, .int .i64 a0_1, .slice A0_2 l0_2.length c0_2], .agg #[.int .i64 a1_0, .int .i64 a1_1, .string a1_2, .string a1_3]] w fun e w' => e = .returned (.bool r) ∧ Below w.heap.size w w' := by
 have hu43 := Try.underlying43
 have hu23 := Try.underlying23
 have HR0_2 := Aside0.mk hr0_2
 have HC0_2 := Aside0.mk hc0_2
 clear hr0_2 hc0_2
 have HB := Aside0.mk (Below.refl w.heap.size w)
 have H : (if (l0_2.length : Int) > 4000 then (brokerlaw32_SegmentAppends.j0 k true a0_0 a0_1 l0_2 a1_0 a1_1 a1_2 a1_3) else (if (a1_2.size : Int) > 4000 then (brokerlaw32_SegmentAppends.j0 k true a0_0 a0_1 l0_2 a1_0 a1_1 a1_2 a1_3) else (if (a1_3.size : Int) > 4200 then (brokerlaw32_SegmentAppends.j0 k true a0_0 a0_1 l0_2 a1_0 a1_1 a1_2 a1_3) else ((brokerref32_Check.f k a0_0 a0_1 l0_2).bind fun t856 => (brokerlaw32_SegmentAppends.j0 k (t856 != 0) a0_0 a0_1 l0_2 a1_0 a1_1 a1_2 a1_3))))) = some r := h
 clear h
 have HC3 := Aside0.mk H
 clear H
 go_enter Try.func15, Try.ntmps15
 go_upto_region 1 with (first | ((with_reducible refine gate_dst (N := 2) rfl ?_); (try (refine gate_guard (by rfl) ?_; dsimp only)); refine Hlp.bx (N := 2) (cs := #[.int .i64 a0_0, .int .i64 a0_1, .slice A0_2 l0_2.length c0_2]) (t := 43) ?_; intro gb854 hg w4 hbox hb; have BK854 := Aside0.mk (hbox); have GW854 := Aside0.mk ((by rw [hg]; exact (below_size (Hlp.bl HB.out)) : w.heap.size ≤ gb854)); have GE854 := Aside0.mk ((by rw [hg]; exact (below_size (Hlp.bl HB.out)) : w.heap.size ≤ gb854)); replace HB := Aside0.mk (below_step (Hlp.bl HB.out) hb); clear hb hbox hg) | ((with_reducible refine gate_dst (N := 3) rfl ?_); (try (refine gate_guard (by rfl) ?_; dsimp only)); refine Hlp.bx (N := 3) (cs := #[.int .i64 a1_0, .int .i64 a1_1, .string a1_2, .string a1_3]) (t := 23) ?_; intro gb855 hg w5 hbox hb; have BK855 := Aside0.mk (hbox); have GW855 := Aside0.mk ((by rw [hg]; exact (below_size (Hlp.bl HB.out)) : w.heap.size ≤ gb855)); have GE855 := Aside0.mk ((by rw [hg]; exact (below_size (Hlp.bl HB.out)) : w.heap.size ≤ gb855)); replace HB := Aside0.mk (below_step (Hlp.bl HB.out) hb); have NB854_855 := Aside0.mk ((by rw [hg]; exact Nat.ne_of_lt (blk_lt (g := gb854) (o := .cells #[.int .i64 a0_0, .int .i64 a0_1, .slice A0_2 l0_2.length c0_2] 43 (0, 0)) (Hlp.bp BK854.out)) : gb854 ≠ gb855)); have NB855_854 := Aside0.mk ((by rw [hg]; exact Nat.ne_of_gt (blk_lt (g := gb854) (o := .cells #[.int .i64 a0_0, .int .i64 a0_1, .slice A0_2 l0_2.length c0_2] 43 (0, 0)) (Hlp.bp BK854.out)) : gb855 ≠ gb854)); replace BK854 := Aside0.mk (blk_below (g := gb854) (o := .cells #[.int .i64 a0_0, .int .i64 a0_1, .slice A0_2 l0_2.length c0_2] 43 (0, 0)) (Hlp.bp BK854.out) hb); clear hb hbox hg))
 (try simp only [Act.put, List.setIfInBounds_toArray, List.set_cons_zero, List.set_cons_succ])
 go_cut [32] (fun v32 wc => ∃ (kq : Nat) (x32_2 : Bool), v32 = .bool x32_2 ∧ Aside0 (brokerlaw32_SegmentAppends.j0 kq x32_2 a0_0 a0_1 l0_2 a1_0 a1_1 a1_2 a1_3 = some r) ∧ Aside0 (kq ≤ k) ∧ Aside0 (wc.heap[gb854]? = some (.cells #[.int .i64 a0_0, .int .i64 a0_1, (.slice A0_2 l0_2.length c0_2)] 43 (0, 0))) ∧ Aside0 (wc.heap[gb855]? = some (.cells #[.int .i64 a1_0, .int .i64 a1_1, .string a1_2, .string a1_3] 23 (0, 0))) ∧ Aside0 (Below w.heap.size w wc))
 case first =>
  have H := HC3.out
  clear HC3
  by_cases c6 : (l0_2.length : Int) > 4000
  ·
   rw [if_pos c6] at H
   have c6b0 : decide (4000 < (l0_2.length : Int)) = true := decide_eq_true c6
   have c6b1 : decide (4000 < l0_2.length) = true := decide_eq_true (by omega)
   clear c6
   (first | rw [c6b0] | (simp only [i64_w, i32_w]; rw [c6b0]) | skip)
   have H' := Aside0.mk H
   clear H
   have hnb7 := NB854_855.out
   have hnc7 := NB855_854.out
   have hcz8_0 : w5.cell? ⟨gb854, 0, none⟩ = some (.int .i64 a0_0) := (blk_cell BK854.out 0).trans rfl
   have hcz8_1 : w5.cell? ⟨gb854, 1, none⟩ = some (.int .i64 a0_1) := (blk_cell BK854.out 1).trans rfl
   have hcz8_2 : w5.cell? ⟨gb854, 2, none⟩ = some (.slice A0_2 l0_2.length c0_2) := (blk_cell BK854.out 2).trans rfl
   have hfz8_0 := blk_frozen BK854.out 0
   have hfz8_1 := blk_frozen BK854.out 1
   have hfz8_2 := blk_frozen BK854.out 2
   go_wp2
   go_meet
   case rel => exact ⟨_, (true), (by first | rfl | (simp; done) | (simp [*]; done)), H', ⟨by first | omega | exact Nat.le_refl _⟩, ⟨by exact Hlp.bp BK854.out⟩, ⟨by exact Hlp.bp BK855.out⟩, ⟨Hlp.bl HB.out⟩⟩
  ·
   rw [if_neg c6] at H
   have c6b0 : decide (4000 < (l0_2.length : Int)) = false := decide_eq_false c6
   have c6b1 : decide (4000 < l0_2.length) = false := decide_eq_false (by omega)
   clear c6
   (first | rw [c6b0] | (simp only [i64_w, i32_w]; rw [c6b0]) | skip)
   by_cases c9 : (a1_2.size : Int) > 4000
   ·
    rw [if_pos c9] at H
    have c9b0 : decide (4000 < (a1_2.size : Int)) = true := decide_eq_true c9
    have c9b1 : decide (4000 < a1_2.size) = true := decide_eq_true (by omega)
    clear c9
    have H' := Aside0.mk H
    clear H
    have hnb10 := NB854_855.out
    have hnc10 := NB855_854.out
    have hcz11_0 : w5.cell? ⟨gb854, 0, none⟩ = some (.int .i64 a0_0) := (blk_cell BK854.out 0).trans rfl
    have hcz11_1 : w5.cell? ⟨gb854, 1, none⟩ = some (.int .i64 a0_1) := (blk_cell BK854.out 1).trans rfl
    have hcz11_2 : w5.cell? ⟨gb854, 2, none⟩ = some (.slice A0_2 l0_2.length c0_2) := (blk_cell BK854.out 2).trans rfl
    have hfz11_0 := blk_frozen BK854.out 0
    have hfz11_1 := blk_frozen BK854.out 1
    have hfz11_2 := blk_frozen BK854.out 2
    have hcz12_0 : w5.cell? ⟨gb855, 0, none⟩ = some (.int .i64 a1_0) := (blk_cell BK855.out 0).trans rfl
    have hcz12_1 : w5.cell? ⟨gb855, 1, none⟩ = some (.int .i64 a1_1) := (blk_cell BK855.out 1).trans rfl
    have hcz12_2 : w5.cell? ⟨gb855, 2, none⟩ = some (.string a1_2) := (blk_cell BK855.out 2).trans rfl
    have hcz12_3 : w5.cell? ⟨gb855, 3, none⟩ = some (.string a1_3) := (blk_cell BK855.out 3).trans rfl
    have hfz12_0 := blk_frozen BK855.out 0
    have hfz12_1 := blk_frozen BK855.out 1
    have hfz12_2 := blk_frozen BK855.out 2
    have hfz12_3 := blk_frozen BK855.out 3
    go_wp2
    go_meet
    case rel => exact ⟨_, (true), (by first | rfl | (simp; done) | (simp [*]; done)), H', ⟨by first | omega | exact Nat.le_refl _⟩, ⟨by exact Hlp.bp BK854.out⟩, ⟨by exact Hlp.bp BK855.out⟩, ⟨Hlp.bl HB.out⟩⟩
   ·
    rw [if_neg c9] at H
    have c9b0 : decide (4000 < (a1_2.size : Int)) = false := decide_eq_false c9
    have c9b1 : decide (4000 < a1_2.size) = false := decide_eq_false (by omega)
    clear c9
    by_cases c13 : (a1_3.size : Int) > 4200
    ·
     rw [if_pos c13] at H
     have c13b0 : decide (4200 < (a1_3.size : Int)) = true := decide_eq_true c13
     have c13b1 : decide (4200 < a1_3.size) = true := decide_eq_true (by omega)
     clear c13
     have H' := Aside0.mk H
     clear H
     have hnb14 := NB854_855.out
     have hnc14 := NB855_854.out
     have hcz15_0 : w5.cell? ⟨gb854, 0, none⟩ = some (.int .i64 a0_0) := (blk_cell BK854.out 0).trans rfl
     have hcz15_1 : w5.cell? ⟨gb854, 1, none⟩ = some (.int .i64 a0_1) := (blk_cell BK854.out 1).trans rfl
     have hcz15_2 : w5.cell? ⟨gb854, 2, none⟩ = some (.slice A0_2 l0_2.length c0_2) := (blk_cell BK854.out 2).trans rfl
     have hfz15_0 := blk_frozen BK854.out 0
     have hfz15_1 := blk_frozen BK854.out 1
     have hfz15_2 := blk_frozen BK854.out 2
     have hcz16_0 : w5.cell? ⟨gb855, 0, none⟩ = some (.int .i64 a1_0) := (blk_cell BK855.out 0).trans rfl
     have hcz16_1 : w5.cell? ⟨gb855, 1, none⟩ = some (.int .i64 a1_1) := (blk_cell BK855.out 1).trans rfl
     have hcz16_2 : w5.cell? ⟨gb855, 2, none⟩ = some (.string a1_2) := (blk_cell BK855.out 2).trans rfl
     have hcz16_3 : w5.cell? ⟨gb855, 3, none⟩ = some (.string a1_3) := (blk_cell BK855.out 3).trans rfl
     have hfz16_0 := blk_frozen BK855.out 0
     have hfz16_1 := blk_frozen BK855.out 1
     have hfz16_2 := blk_frozen BK855.out 2
     have hfz16_3 := blk_frozen BK855.out 3
     go_wp2
     go_meet
     case rel => exact ⟨_, (true), (by first | rfl | (simp; done) | (simp [*]; done)), H', ⟨by first | omega | exact Nat.le_refl _⟩, ⟨by exact Hlp.bp BK854.out⟩, ⟨by exact Hlp.bp BK855.out⟩, ⟨Hlp.bl HB.out⟩⟩
    ·
     rw [if_neg c13] at H
     have c13b0 : decide (4200 < (a1_3.size : Int)) = false := decide_eq_false c13
     have c13b1 : decide (4200 < a1_3.size) = false := decide_eq_false (by omega)
     clear c13
     replace H := Option.bind_eq_some_iff.mp H
     obtain ⟨t856, A170, H⟩ := H
     replace H : (brokerlaw32_SegmentAppends.j0 k (t856 != 0) a0_0 a0_1 l0_2 a1_0 a1_1 a1_2 a1_3) = some r := H
     have A17 := Aside0.mk A170
     clear A170
     have H' := Aside0.mk H
     clear H
     have hnb18 := NB854_855.out
     have hnc18 := NB855_854.out
     have hcz19_0 : w5.cell? ⟨gb854, 0, none⟩ = some (.int .i64 a0_0) := (blk_cell BK854.out 0).trans rfl
     have hcz19_1 : w5.cell? ⟨gb854, 1, none⟩ = some (.int .i64 a0_1) := (blk_cell BK854.out 1).trans rfl
     have hcz19_2 : w5.cell? ⟨gb854, 2, none⟩ = some (.slice A0_2 l0_2.length c0_2) := (blk_cell BK854.out 2).trans rfl
     have hfz19_0 := blk_frozen BK854.out 0
     have hfz19_1 := blk_frozen BK854.out 1
     have hfz19_2 := blk_frozen BK854.out 2
     have hcz20_0 : w5.cell? ⟨gb855, 0, none⟩ = some (.int .i64 a1_0) := (blk_cell BK855.out 0).trans rfl
     have hcz20_1 : w5.cell? ⟨gb855, 1, none⟩ = some (.int .i64 a1_1) := (blk_cell BK855.out 1).trans rfl
     have hcz20_2 : w5.cell? ⟨gb855, 2, none⟩ = some (.string a1_2) := (blk_cell BK855.out 2).trans rfl
     have hcz20_3 : w5.cell? ⟨gb855, 3, none⟩ = some (.string a1_3) := (blk_cell BK855.out 3).trans rfl
     have hfz20_0 := blk_frozen BK855.out 0
     have hfz20_1 := blk_frozen BK855.out 1
     have hfz20_2 := blk_frozen BK855.out 2
     have hfz20_3 := blk_frozen BK855.out 3
     go_wp2_with (first | (go_at_call 49; (with_reducible refine (brokerref32_Check.calls k a0_0 a0_1 _ _ l0_2 t856 _ ?side1 ?side2 A17.out).mono ?_); (case side1 => exact Hlp.cp (Kd.C_below HR0_2.out HB.out)); (case side2 => exact HC0_2.out); rintro e w21 ⟨rfl, hb⟩; replace BK854 := Aside0.mk (blk_below (g := gb854) (o := .cells #[.int .i64 a0_0, .int .i64 a0_1, .slice A0_2 l0_2.length c0_2] 43 (0, 0)) (Hlp.bp BK854.out) hb); replace BK855 := Aside0.mk (blk_below (g := gb855) (o := .cells #[.int .i64 a1_0, .int .i64 a1_1, .string a1_2, .string a1_3] 23 (0, 0)) (Hlp.bp BK855.out) hb); replace HB := Aside0.mk (below_step (Hlp.bl HB.out) hb); (try clear hb); (try clear hb2); (try clear hk); (try clear hi)))
     go_meet
     case rel => exact ⟨_, ((t856 != 0)), (by first | rfl | (simp; done) | (simp [*]; done)), H', ⟨by first | omega | exact Nat.le_refl _⟩, ⟨by exact Hlp.bp BK854.out⟩, ⟨by exact Hlp.bp BK855.out⟩, ⟨Hlp.bl HB.out⟩⟩
 case rest =>
  clear HC3
  try clear c1
  try clear p2
  try clear c6
  try clear c6b0
  try clear c6b1
  try clear c7
  try clear c9
  try clear c9b0
  try clear c9b1
  try clear c10
  try clear c13
  try clear c13b0
  try clear c13b1
  try clear c14
  try clear c15
  try clear c18
  try clear hcz11_0
  try clear hcz11_1
  try clear hcz11_2
  try clear hcz12_0
  try clear hcz12_1
  try clear hcz12_2
  try clear hcz12_3
  try clear hcz15_0
  try clear hcz15_1
  try clear hcz15_2
  try clear hcz16_0
  try clear hcz16_1
  try clear hcz16_2
  try clear hcz16_3
  try clear hcz19_0
  try clear hcz19_1
  try clear hcz19_2
  try clear hcz20_0
  try clear hcz20_1
  try clear hcz20_2
  try clear hcz20_3
  try clear hcz8_0
  try clear hcz8_1
  try clear hcz8_2
  try clear hfz11_0
  try clear hfz11_1
  try clear hfz11_2
  try clear hfz12_0
  try clear hfz12_1
  try clear hfz12_2
  try clear hfz12_3
  try clear hfz15_0
  try clear hfz15_1
  try clear hfz15_2
  try clear hfz16_0
  try clear hfz16_1
  try clear hfz16_2
  try clear hfz16_3
  try clear hfz19_0
  try clear hfz19_1
  try clear hfz19_2
  try clear hfz20_0
  try clear hfz20_1
  try clear hfz20_2
  try clear hfz20_3
  try clear hfz8_0
  try clear hfz8_1
  try clear hfz8_2
  obtain ⟨kq, x32_2, rfl, HA, HJ2, BK854, BK855, HB⟩ := hcut
  cases kq with
  | zero => exact absurd HA.out (by simp [brokerlaw32_SegmentAppends.j0])
  | succ kj2 =>
   have H := HA.out
   clear HA
   simp only [brokerlaw32_SegmentAppends.j0] at H
   by_cases c22 : x32_2 = true
   ·
    subst c22
    have H1 : ((brokerlaw32_awake.f kj2).bind fun t857 => (some t857)) = some r := by rw [if_pos rfl] at H; exact H
    clear H
    have H := H1
    clear H1
    replace H := Option.bind_eq_some_iff.mp H
    obtain ⟨t857, A230, H⟩ := H
    replace H : (some t857) = some r := H
    have A23 := Aside0.mk A230
    clear A230
    obtain rfl := Option.some.inj H
    go_wp2_with (first | ((with_reducible refine gate_callee (f := 47) rfl ?_); refine Hlp.gl (some 33) Try.func47 #[] ?_; (with_reducible refine (brokerlaw32_awake.calls kj2  t857 _ A23.out).mono ?_); rintro e w24 ⟨rfl, hb⟩; refine ⟨_, rfl, ?_⟩; replace BK854 := Aside0.mk (blk_below (g := gb854) (o := .cells #[.int .i64 a0_0, .int .i64 a0_1, .slice A0_2 l0_2.length c0_2] 43 (0, 0)) (Hlp.bp BK854.out) hb); replace BK855 := Aside0.mk (blk_below (g := gb855) (o := .cells #[.int .i64 a1_0, .int .i64 a1_1, .string a1_2, .string a1_3] 23 (0, 0)) (Hlp.bp BK855.out) hb); replace HB := Aside0.mk (below_step (Hlp.bl HB.out) hb); (try clear hb); (try clear hb2); (try clear hk); (try clear hi)))
    go_ret
    exact ⟨by first | rfl | (simp [errW_none, errW_some] <;> rfl) | (simp [*, errW_none, errW_some] <;> rfl), Hlp.bl HB.out⟩
   ·
    replace c22 := Bool.eq_false_iff.mpr c22
    subst c22
    have H1 : ((some (([] : List Int) : List Int)).bind fun y858 => (if y858.length + l0_2.length < 140737488355328 then ((some (y858 ++ l0_2 : List Int)).bind fun y861 => ((segment_Append.f kj2 a0_0 a0_1 y861 a1_1 a1_2 a1_3).bind fun bt864 => ((brokerref32_Append.f kj2 a0_0 a0_1 l0_2 a1_1 a1_2 a1_3).bind fun bt872 => ((brokerref32_Same.f bt864.1 bt864.2.1 bt864.2.2.1 bt872.1 bt872.2.1 bt872.2.2.1).bind fun t880 => (if t880 = true then (if bt864.2.2.2.1 = bt872.2.2.2.1 then (if bt864.2.2.2.2 = bt872.2.2.2.2 then (if (strOfNums y861).toList = (strOfNums l0_2).toList then ((brokerlaw32_awake.f kj2).bind fun t881 => (some t881)) else (none)) else (none)) else (none)) else (none)))))) else (none))) = some r := by rw [if_neg (show ¬ (false = true) by decide)] at H; exact H
    clear H
    have H := H1
    clear H1
    obtain ⟨y858, hy858⟩ : ∃ y_ : List Int, y_ = (([] : List Int)) := ⟨_, rfl⟩
    replace H : (if y858.length + l0_2.length < 140737488355328 then ((some (y858 ++ l0_2 : List Int)).bind fun y861 => ((segment_Append.f kj2 a0_0 a0_1 y861 a1_1 a1_2 a1_3).bind fun bt864 => ((brokerref32_Append.f kj2 a0_0 a0_1 l0_2 a1_1 a1_2 a1_3).bind fun bt872 => ((brokerref32_Same.f bt864.1 bt864.2.1 bt864.2.2.1 bt872.1 bt872.2.1 bt872.2.2.1).bind fun t880 => (if t880 = true then (if bt864.2.2.2.1 = bt872.2.2.2.1 then (if bt864.2.2.2.2 = bt872.2.2.2.2 then (if (strOfNums y861).toList = (strOfNums l0_2).toList then ((brokerlaw32_awake.f kj2).bind fun t881 => (some t881)) else (none)) else (none)) else (none)) else (none)))))) else (none)) = some r := by first | (rw [hy858]; with_reducible exact H) | (have H2_ := (Option.bind_some _ _).symm.trans H; rw [hy858]; with_reducible exact H2_) | (have H2_ := (Option.bind_some _ _).symm.trans H; with_reducible exact H2_) | with_reducible exact H | (rw [hy858]; exact H) | exact H
    have Ny858 := Aside0.mk hy858
    clear hy858
    by_cases c25 : y858.length + l0_2.length < 140737488355328
    ·
     rw [if_pos c25] at H
     have LMc25 := Aside0.mk c25
     clear c25
     obtain ⟨y861, hy861⟩ : ∃ y_ : List Int, y_ = (y858 ++ l0_2) := ⟨_, rfl⟩
     replace H : ((segment_Append.f kj2 a0_0 a0_1 y861 a1_1 a1_2 a1_3).bind fun bt864 => ((brokerref32_Append.f kj2 a0_0 a0_1 l0_2 a1_1 a1_2 a1_3).bind fun bt872 => ((brokerref32_Same.f bt864.1 bt864.2.1 bt864.2.2.1 bt872.1 bt872.2.1 bt872.2.2.1).bind fun t880 => (if t880 = true then (if bt864.2.2.2.1 = bt872.2.2.2.1 then (if bt864.2.2.2.2 = bt872.2.2.2.2 then (if (strOfNums y861).toList = (strOfNums l0_2).toList then ((brokerlaw32_awake.f kj2).bind fun t881 => (some t881)) else (none)) else (none)) else (none)) else (none))))) = some r := by first | (rw [hy861]; with_reducible exact H) | (have H2_ := (Option.bind_some _ _).symm.trans H; rw [hy861]; with_reducible exact H2_) | (have H2_ := (Option.bind_some _ _).symm.trans H; with_reducible exact H2_) | with_reducible exact H | (rw [hy861]; exact H) | exact H
     have Ny861 := Aside0.mk hy861
     clear hy861
     replace H := Option.bind_eq_some_iff.mp H
     obtain ⟨⟨t864, t865, t866, t869, t870⟩, A260, H⟩ := H
     replace H : ((brokerref32_Append.f kj2 a0_0 a0_1 l0_2 a1_1 a1_2 a1_3).bind fun bt872 => ((brokerref32_Same.f t864 t865 t866 bt872.1 bt872.2.1 bt872.2.2.1).bind fun t880 => (if t880 = true then (if t869 = bt872.2.2.2.1 then (if t870 = bt872.2.2.2.2 then (if (strOfNums y861).toList = (strOfNums l0_2).toList then ((brokerlaw32_awake.f kj2).bind fun t881 => (some t881)) else (none)) else (none)) else (none)) else (none)))) = some r := H
     have A26 := Aside0.mk A260
     clear A260
     replace H := Option.bind_eq_some_iff.mp H
     obtain ⟨⟨t872, t873, t874, t877, t878⟩, A270, H⟩ := H
     replace H : ((brokerref32_Same.f t864 t865 t866 t872 t873 t874).bind fun t880 => (if t880 = true then (if t869 = t877 then (if t870 = t878 then (if (strOfNums y861).toList = (strOfNums l0_2).toList then ((brokerlaw32_awake.f kj2).bind fun t881 => (some t881)) else (none)) else (none)) else (none)) else (none))) = some r := H
     have A27 := Aside0.mk A270
     clear A270
     replace H := Option.bind_eq_some_iff.mp H
     obtain ⟨t880, A280, H⟩ := H
     replace H : (if t880 = true then (if t869 = t877 then (if t870 = t878 then (if (strOfNums y861).toList = (strOfNums l0_2).toList then ((brokerlaw32_awake.f kj2).bind fun t881 => (some t881)) else (none)) else (none)) else (none)) else (none)) = some r := H
     have A28 := Aside0.mk A280
     clear A280
     by_cases c29 : t880 = true
     ·
      subst c29
      have H1 : (if t869 = t877 then (if t870 = t878 then (if (strOfNums y861).toList = (strOfNums l0_2).toList then ((brokerlaw32_awake.f kj2).bind fun t881 => (some t881)) else (none)) else (none)) else (none)) = some r := by rw [if_pos rfl] at H; exact H
      clear H
      have H := H1
      clear H1
      by_cases c30 : t869 = t877
      ·
       rw [if_pos c30] at H
       have c30b0 : (t869 == t877) = true := beq_iff_eq.mpr c30
       have c30b1 : (t869 != t877) = false := bne_eq_false_iff_eq.mpr c30
       clear c30
       by_cases c31 : t870 = t878
       ·
        rw [if_pos c31] at H
        have c31b0 : (t870 == t878) = true := beq_iff_eq.mpr c31
        have c31b1 : (t870 != t878) = false := bne_eq_false_iff_eq.mpr c31
        clear c31
        by_cases c32 : (strOfNums y861).toList = (strOfNums l0_2).toList
        ·
         rw [if_pos c32] at H
         have c32b0 : ((strOfNums y861).toList == (strOfNums l0_2).toList) = true := beq_iff_eq.mpr c32
         have c32b1 : ((strOfNums y861).toList != (strOfNums l0_2).toList) = false := bne_eq_false_iff_eq.mpr c32
         clear c32
         replace H := Option.bind_eq_some_iff.mp H
         obtain ⟨t881, A330, H⟩ := H
         replace H : (some t881) = some r := H
         have A33 := Aside0.mk A330
         clear A330
         obtain rfl := Option.some.inj H
         go_wp2_with (first | ((with_reducible refine gate_dst (N := 34) rfl ?_); (try (refine gate_guard (by rfl) ?_; dsimp only)); refine Kd.R_lit (Kd.int .u8) _ 5 ?hg (N := 34) ?hd (xs := ([] : List Int)) (inner := []) (ok := fun _ => True) (okp := fun _ => True) ?hr ?hp (fun _ hk => hk) trivial (Below.refl _ _) (Nat.le_refl _) (by simp) ?_; (case hd => rfl); (case hg => rfl); (case hr => first | (go_simp; done) | (go_simp; rfl)); (case hp => exact (Reps.none _ _)); intro v859 w34 ho35 hb hg_ hnew_; clear hg_ hnew_; (first | rw [← Ny858.out] at ho35 | (simp only [Int.reduceToNat] at ho35; rw [← Ny858.out] at ho35)); have HO860 := Aside0.mk (Kd.R_lower ho35 (below_size (Hlp.bl HB.out))); replace BK854 := Aside0.mk (blk_below (g := gb854) (o := .cells #[.int .i64 a0_0, .int .i64 a0_1, .slice A0_2 l0_2.length c0_2] 43 (0, 0)) (Hlp.bp BK854.out) hb); replace BK855 := Aside0.mk (blk_below (g := gb855) (o := .cells #[.int .i64 a1_0, .int .i64 a1_1, .string a1_2, .string a1_3] 23 (0, 0)) (Hlp.bp BK855.out) hb); replace HB := Aside0.mk (below_step (Hlp.bl HB.out) hb); clear hb ho35; have hnb36 := NB854_855.out; have hnc36 := NB855_854.out; have hcz37_0 : w34.cell? ⟨gb854, 0, none⟩ = some (.int .i64 a0_0) := (blk_cell BK854.out 0).trans rfl; have hcz37_1 : w34.cell? ⟨gb854, 1, none⟩ = some (.int .i64 a0_1) := (blk_cell BK854.out 1).trans rfl; have hcz37_2 : w34.cell? ⟨gb854, 2, none⟩ = some (.slice A0_2 l0_2.length c0_2) := (blk_cell BK854.out 2).trans rfl; have hfz37_0 := blk_frozen BK854.out 0; have hfz37_1 := blk_frozen BK854.out 1; have hfz37_2 := blk_frozen BK854.out 2) | ((with_reducible refine gate_builtin (b := .append) (xs := #[.tmp 34, .tmp 36]) rfl ?_); (try (refine gate_guard (by rfl) ?_; dsimp only)); at_builtin; refine Kd.R_append_rows (Kd.int .u8) (w0 := w) w.heap.size rfl (.tmp 34) (.tmp 36) 28 5 (.int .u8 0) 1 rfl Try.underlying28 info5 rfl (by decide) (by omega) v859 y858 l0_2 _ _ _ (fun _ => True) (fun _ => False) rfl rfl ?aO ?aR (fun _ _ h => h) (fun _ h => h.elim) ?aF ?aB ?aS ?aL ?_; (case aR => exact Hlp.cp (Kd.C_below HR0_2.out HB.out)); (case aB => exact (Hlp.bl HB.out)); (case aF => exact (fun _ _ => trivial)); (case aO => exact (Hlp.rp HO860.out)); (case aS => exact (below_size (Hlp.bl HB.out))); (case aL => have := LMc25.out; omega); intro v862 w38 ho hb hg hat; rw [← Ny861.out] at ho; have n0_ := Aside0.mk (blk_grown (g := gb854) (o := .cells #[.int .i64 a0_0, .int .i64 a0_1, .slice A0_2 l0_2.length c0_2] 43 (0, 0)) (Hlp.bp BK854.out) hg (Kd.R_ne HO860.out BK854.out (by decide))); have n1_ := Aside0.mk (blk_grown (g := gb855) (o := .cells #[.int .i64 a1_0, .int .i64 a1_1, .string a1_2, .string a1_3] 23 (0, 0)) (Hlp.bp BK855.out) hg (Kd.R_ne HO860.out BK855.out (by decide))); have n2_ := Aside0.mk (hb); have n3_ := Aside0.mk (ho); clear BK854; clear BK855; clear HB; clear HO860; have BK854 := n0_; have BK855 := n1_; have HB := n2_; have HO863 := n3_; clear n0_ n1_ n2_ n3_; clear ho hb hg hat; have hcz39_0 : w38.cell? ⟨gb854, 0, none⟩ = some (.int .i64 a0_0) := (blk_cell BK854.out 0).trans rfl; have hcz39_1 : w38.cell? ⟨gb854, 1, none⟩ = some (.int .i64 a0_1) := (blk_cell BK854.out 1).trans rfl; have hcz39_2 : w38.cell? ⟨gb854, 2, none⟩ = some (.slice A0_2 l0_2.length c0_2) := (blk_cell BK854.out 2).trans rfl; have hfz39_0 := blk_frozen BK854.out 0; have hfz39_1 := blk_frozen BK854.out 1; have hfz39_2 := blk_frozen BK854.out 2; obtain ⟨Ao40, co40, eo40⟩ := Kd.R_slice HO863.out; subst eo40; have hcz41_0 : w38.cell? ⟨gb855, 0, none⟩ = some (.int .i64 a1_0) := (blk_cell BK855.out 0).trans rfl; have hcz41_1 : w38.cell? ⟨gb855, 1, none⟩ = some (.int .i64 a1_1) := (blk_cell BK855.out 1).trans rfl; have hcz41_2 : w38.cell? ⟨gb855, 2, none⟩ = some (.string a1_2) := (blk_cell BK855.out 2).trans rfl; have hcz41_3 : w38.cell? ⟨gb855, 3, none⟩ = some (.string a1_3) := (blk_cell BK855.out 3).trans rfl; have hfz41_0 := blk_frozen BK855.out 0; have hfz41_1 := blk_frozen BK855.out 1; have hfz41_2 := blk_frozen BK855.out 2; have hfz41_3 := blk_frozen BK855.out 3) | ((with_reducible refine gate_callee (f := 53) rfl ?_); refine Hlp.gl (some 51) Try.func53 #[.agg #[.int .i64 a0_0, .int .i64 a0_1, .slice Ao40 y861.length co40], .int .i64 a1_1, .string a1_2, .string a1_3] ?_; (with_reducible refine (segment_Append.calls kj2 a0_0 a0_1 _ _ y861 a1_1 a1_2 a1_3 t864 t865 t866 t869 t870 _ ?side1 ?side2 A26.out).mono ?_); (case side1 => exact Hlp.cp (Kd.R_reads' HO863.out).2.2); (case side2 => exact (Kd.R_reads' HO863.out).2.1); rintro e w42 ⟨v867, rfl, ho0, hb⟩; refine ⟨_, rfl, ?_⟩; have HO868 := Aside0.mk (Kd.R_lower (Kd.R_new' ho0 (Kd.R_lt (Hlp.rp HO863.out))) (below_size (Hlp.bl HB.out))); replace HO863 := Aside0.mk (Kd.R_elder' (Hlp.rp HO863.out) (Kd.R_base ho0) hb); replace BK854 := Aside0.mk (blk_below (g := gb854) (o := .cells #[.int .i64 a0_0, .int .i64 a0_1, .slice A0_2 l0_2.length c0_2] 43 (0, 0)) (Hlp.bp BK854.out) hb); replace BK855 := Aside0.mk (blk_below (g := gb855) (o := .cells #[.int .i64 a1_0, .int .i64 a1_1, .string a1_2, .string a1_3] 23 (0, 0)) (Hlp.bp BK855.out) hb); replace HB := Aside0.mk (below_step (Hlp.bl HB.out) hb); (try clear hb); (try clear hb2); (try clear hk); (try clear hi); (try clear ho0)) | ((with_reducible refine gate_dst (N := 6) rfl ?_); (try (refine gate_guard (by rfl) ?_; dsimp only)); refine Hlp.bx (N := 6) (cs := #[.int .i64 0, .int .i64 0, .slice none 0 0]) (t := 43) ?_; intro gb871 hg w43 hbox hb; replace HO863 := Aside0.mk (Kd.R_below (Hlp.rp HO863.out) hb); replace HO868 := Aside0.mk (Kd.R_below (Hlp.rp HO868.out) hb); have BK871 := Aside0.mk (hbox); have GW871 := Aside0.mk ((by rw [hg]; exact (below_size (Hlp.bl HB.out)) : w.heap.size ≤ gb871)); have GE871 := Aside0.mk ((by rw [hg]; exact (below_size (Hlp.bl HB.out)) : w.heap.size ≤ gb871)); replace HB := Aside0.mk (below_step (Hlp.bl HB.out) hb); have NB854_871 := Aside0.mk ((by rw [hg]; exact Nat.ne_of_lt (blk_lt (g := gb854) (o := .cells #[.int .i64 a0_0, .int .i64 a0_1, .slice A0_2 l0_2.length c0_2] 43 (0, 0)) (Hlp.bp BK854.out)) : gb854 ≠ gb871)); have NB871_854 := Aside0.mk ((by rw [hg]; exact Nat.ne_of_gt (blk_lt (g := gb854) (o := .cells #[.int .i64 a0_0, .int .i64 a0_1, .slice A0_2 l0_2.length c0_2] 43 (0, 0)) (Hlp.bp BK854.out)) : gb871 ≠ gb854)); replace BK854 := Aside0.mk (blk_below (g := gb854) (o := .cells #[.int .i64 a0_0, .int .i64 a0_1, .slice A0_2 l0_2.length c0_2] 43 (0, 0)) (Hlp.bp BK854.out) hb); have NB855_871 := Aside0.mk ((by rw [hg]; exact Nat.ne_of_lt (blk_lt (g := gb855) (o := .cells #[.int .i64 a1_0, .int .i64 a1_1, .string a1_2, .string a1_3] 23 (0, 0)) (Hlp.bp BK855.out)) : gb855 ≠ gb871)); have NB871_855 := Aside0.mk ((by rw [hg]; exact Nat.ne_of_gt (blk_lt (g := gb855) (o := .cells #[.int .i64 a1_0, .int .i64 a1_1, .string a1_2, .string a1_3] 23 (0, 0)) (Hlp.bp BK855.out)) : gb871 ≠ gb855)); replace BK855 := Aside0.mk (blk_below (g := gb855) (o := .cells #[.int .i64 a1_0, .int .i64 a1_1, .string a1_2, .string a1_3] 23 (0, 0)) (Hlp.bp BK855.out) hb); clear hb hbox hg; have hnb44 := NB871_854.out; have hnc44 := NB854_871.out; have hnb45 := NB871_855.out; have hnc45 := NB855_871.out; have hcz46_0 : w43.cell? ⟨gb871, 0, none⟩ = some (.int .i64 0) := (blk_cell BK871.out 0).trans rfl; have hcz46_1 : w43.cell? ⟨gb871, 1, none⟩ = some (.int .i64 0) := (blk_cell BK871.out 1).trans rfl; have hcz46_2 : w43.cell? ⟨gb871, 2, none⟩ = some (.slice none 0 0) := (blk_cell BK871.out 2).trans rfl; have hfz46_0 := blk_frozen BK871.out 0; have hfz46_1 := blk_frozen BK871.out 1; have hfz46_2 := blk_frozen BK871.out 2; obtain ⟨Ao47, co47, eo47⟩ := Kd.R_slice HO868.out; subst eo47; have hcz48_0 : w43.cell? ⟨gb854, 0, none⟩ = some (.int .i64 a0_0) := (blk_cell BK854.out 0).trans rfl; have hcz48_1 : w43.cell? ⟨gb854, 1, none⟩ = some (.int .i64 a0_1) := (blk_cell BK854.out 1).trans rfl; have hcz48_2 : w43.cell? ⟨gb854, 2, none⟩ = some (.slice A0_2 l0_2.length c0_2) := (blk_cell BK854.out 2).trans rfl; have hfz48_0 := blk_frozen BK854.out 0; have hfz48_1 := blk_frozen BK854.out 1; have hfz48_2 := blk_frozen BK854.out 2; have hcz49_0 : w43.cell? ⟨gb855, 0, none⟩ = some (.int .i64 a1_0) := (blk_cell BK855.out 0).trans rfl; have hcz49_1 : w43.cell? ⟨gb855, 1, none⟩ = some (.int .i64 a1_1) := (blk_cell BK855.out 1).trans rfl; have hcz49_2 : w43.cell? ⟨gb855, 2, none⟩ = some (.string a1_2) := (blk_cell BK855.out 2).trans rfl; have hcz49_3 : w43.cell? ⟨gb855, 3, none⟩ = some (.string a1_3) := (blk_cell BK855.out 3).trans rfl; have hfz49_0 := blk_frozen BK855.out 0; have hfz49_1 := blk_frozen BK855.out 1; have hfz49_2 := blk_frozen BK855.out 2; have hfz49_3 := blk_frozen BK855.out 3) | ((with_reducible refine gate_callee (f := 54) rfl ?_); refine Hlp.gl (some 63) Try.func54 #[.agg #[.int .i64 a0_0, .int .i64 a0_1, .slice A0_2 l0_2.length c0_2], .int .i64 a1_1, .string a1_2, .string a1_3] ?_; (with_reducible refine (brokerref32_Append.calls kj2 a0_0 a0_1 _ _ l0_2 a1_1 a1_2 a1_3 t872 t873 t874 t877 t878 _ ?side1 ?side2 A27.out).mono ?_); (case side1 => exact Kd.C_below HR0_2.out (Hlp.bl HB.out)); (case side2 => exact HC0_2.out); rintro e w50 ⟨v875, rfl, ho0, hb⟩; refine ⟨_, rfl, ?_⟩; have HO876 := Aside0.mk (Kd.R_lower (Kd.R_new' (Kd.R_new' ho0 (Kd.R_lt (by (with_reducible repeat (first | apply Kd.R_alloc | apply Kd.R_drewN | apply Kd.R_drew)); exact (Kd.R_mono (Kd.R_far (p := ⟨gb871, 2, none⟩) (Kd.R_far (p := ⟨gb871, 1, none⟩) (Kd.R_far (p := ⟨gb871, 0, none⟩) (Kd.R_types HO863.out BK871.out (by decide)) (fun _ hk => hk.2) (.int .i64 t864)) (fun _ hk => hk.2) (.int .i64 t865)) (fun _ hk => hk.2) (.slice Ao47 t866.length co47)) (fun _ h_ => h_.1))))) (Kd.R_lt (by (with_reducible repeat (first | apply Kd.R_alloc | apply Kd.R_drewN | apply Kd.R_drew)); exact (Kd.R_mono (Kd.R_far (p := ⟨gb871, 2, none⟩) (Kd.R_far (p := ⟨gb871, 1, none⟩) (Kd.R_far (p := ⟨gb871, 0, none⟩) (Kd.R_types HO868.out BK871.out (by decide)) (fun _ hk => hk.2) (.int .i64 t864)) (fun _ hk => hk.2) (.int .i64 t865)) (fun _ hk => hk.2) (.slice Ao47 t866.length co47)) (fun _ h_ => h_.1))))) (below_size (Hlp.bl HB.out))); replace HO863 := Aside0.mk (Kd.R_elder' (by (with_reducible repeat (first | apply Kd.R_alloc | apply Kd.R_drewN | apply Kd.R_drew)); exact (Kd.R_mono (Kd.R_far (p := ⟨gb871, 2, none⟩) (Kd.R_far (p := ⟨gb871, 1, none⟩) (Kd.R_far (p := ⟨gb871, 0, none⟩) (Kd.R_types HO863.out BK871.out (by decide)) (fun _ hk => hk.2) (.int .i64 t864)) (fun _ hk => hk.2) (.int .i64 t865)) (fun _ hk => hk.2) (.slice Ao47 t866.length co47)) (fun _ h_ => h_.1))) (Kd.R_base ho0) hb); replace HO868 := Aside0.mk (Kd.R_elder' (by (with_reducible repeat (first | apply Kd.R_alloc | apply Kd.R_drewN | apply Kd.R_drew)); exact (Kd.R_mono (Kd.R_far (p := ⟨gb871, 2, none⟩) (Kd.R_far (p := ⟨gb871, 1, none⟩) (Kd.R_far (p := ⟨gb871, 0, none⟩) (Kd.R_types HO868.out BK871.out (by decide)) (fun _ hk => hk.2) (.int .i64 t864)) (fun _ hk => hk.2) (.int .i64 t865)) (fun _ hk => hk.2) (.slice Ao47 t866.length co47)) (fun _ h_ => h_.1))) (Kd.R_base ho0) hb); replace BK854 := Aside0.mk (blk_below (g := gb854) (o := .cells #[.int .i64 a0_0, .int .i64 a0_1, .slice A0_2 l0_2.length c0_2] 43 (0, 0)) (by refine Hlp.bp (blk_far ?_ NB854_871.out _); refine Hlp.bp (blk_far ?_ NB854_871.out _); refine Hlp.bp (blk_far ?_ NB854_871.out _); exact Hlp.bp BK854.out) hb); replace BK855 := Aside0.mk (blk_below (g := gb855) (o := .cells #[.int .i64 a1_0, .int .i64 a1_1, .string a1_2, .string a1_3] 23 (0, 0)) (by refine Hlp.bp (blk_far ?_ NB855_871.out _); refine Hlp.bp (blk_far ?_ NB855_871.out _); refine Hlp.bp (blk_far ?_ NB855_871.out _); exact Hlp.bp BK855.out) hb); replace BK871 := Aside0.mk (blk_below (g := gb871) (o := .cells #[.int .i64 t864, .int .i64 t865, .slice Ao47 t866.length co47] 43 (0, 0)) (by refine Hlp.bp (blk_put (cs := #[.int .i64 t864, .int .i64 t865, .slice none 0 0]) ?_ 2 _ rfl); refine Hlp.bp (blk_put (cs := #[.int .i64 t864, .int .i64 0, .slice none 0 0]) ?_ 1 _ rfl); refine Hlp.bp (blk_put (cs := #[.int .i64 0, .int .i64 0, .slice none 0 0]) ?_ 0 _ rfl); exact Hlp.bp BK871.out) hb); replace HB := Aside0.mk (below_step (Hlp.bl HB.out) hb); (try clear hb); (try clear hb2); (try clear hk); (try clear hi); (try clear ho0)) | ((with_reducible refine gate_dst (N := 9) rfl ?_); (try (refine gate_guard (by rfl) ?_; dsimp only)); refine Hlp.bx (N := 9) (cs := #[.int .i64 0, .int .i64 0, .slice none 0 0]) (t := 43) ?_; intro gb879 hg w51 hbox hb; replace HO863 := Aside0.mk (Kd.R_below (Hlp.rp HO863.out) hb); replace HO868 := Aside0.mk (Kd.R_below (Hlp.rp HO868.out) hb); replace HO876 := Aside0.mk (Kd.R_below (Hlp.rp HO876.out) hb); have BK879 := Aside0.mk (hbox); have GW879 := Aside0.mk ((by rw [hg]; exact (below_size (Hlp.bl HB.out)) : w.heap.size ≤ gb879)); have GE879 := Aside0.mk ((by rw [hg]; exact (below_size (Hlp.bl HB.out)) : w.heap.size ≤ gb879)); replace HB := Aside0.mk (below_step (Hlp.bl HB.out) hb); have NB854_879 := Aside0.mk ((by rw [hg]; exact Nat.ne_of_lt (blk_lt (g := gb854) (o := .cells #[.int .i64 a0_0, .int .i64 a0_1, .slice A0_2 l0_2.length c0_2] 43 (0, 0)) (Hlp.bp BK854.out)) : gb854 ≠ gb879)); have NB879_854 := Aside0.mk ((by rw [hg]; exact Nat.ne_of_gt (blk_lt (g := gb854) (o := .cells #[.int .i64 a0_0, .int .i64 a0_1, .slice A0_2 l0_2.length c0_2] 43 (0, 0)) (Hlp.bp BK854.out)) : gb879 ≠ gb854)); replace BK854 := Aside0.mk (blk_below (g := gb854) (o := .cells #[.int .i64 a0_0, .int .i64 a0_1, .slice A0_2 l0_2.length c0_2] 43 (0, 0)) (Hlp.bp BK854.out) hb); have NB855_879 := Aside0.mk ((by rw [hg]; exact Nat.ne_of_lt (blk_lt (g := gb855) (o := .cells #[.int .i64 a1_0, .int .i64 a1_1, .string a1_2, .string a1_3] 23 (0, 0)) (Hlp.bp BK855.out)) : gb855 ≠ gb879)); have NB879_855 := Aside0.mk ((by rw [hg]; exact Nat.ne_of_gt (blk_lt (g := gb855) (o := .cells #[.int .i64 a1_0, .int .i64 a1_1, .string a1_2, .string a1_3] 23 (0, 0)) (Hlp.bp BK855.out)) : gb879 ≠ gb855)); replace BK855 := Aside0.mk (blk_below (g := gb855) (o := .cells #[.int .i64 a1_0, .int .i64 a1_1, .string a1_2, .string a1_3] 23 (0, 0)) (Hlp.bp BK855.out) hb); have NB871_879 := Aside0.mk ((by rw [hg]; exact Nat.ne_of_lt (blk_lt (g := gb871) (o := .cells #[.int .i64 t864, .int .i64 t865, .slice Ao47 t866.length co47] 43 (0, 0)) (Hlp.bp BK871.out)) : gb871 ≠ gb879)); have NB879_871 := Aside0.mk ((by rw [hg]; exact Nat.ne_of_gt (blk_lt (g := gb871) (o := .cells #[.int .i64 t864, .int .i64 t865, .slice Ao47 t866.length co47] 43 (0, 0)) (Hlp.bp BK871.out)) : gb879 ≠ gb871)); replace BK871 := Aside0.mk (blk_below (g := gb871) (o := .cells #[.int .i64 t864, .int .i64 t865, .slice Ao47 t866.length co47] 43 (0, 0)) (Hlp.bp BK871.out) hb); clear hb hbox hg; have hnb52 := NB879_854.out; have hnc52 := NB854_879.out; have hnb53 := NB879_855.out; have hnc53 := NB855_879.out; have hnb54 := NB879_871.out; have hnc54 := NB871_879.out; have hcz55_0 : w51.cell? ⟨gb879, 0, none⟩ = some (.int .i64 0) := (blk_cell BK879.out 0).trans rfl; have hcz55_1 : w51.cell? ⟨gb879, 1, none⟩ = some (.int .i64 0) := (blk_cell BK879.out 1).trans rfl; have hcz55_2 : w51.cell? ⟨gb879, 2, none⟩ = some (.slice none 0 0) := (blk_cell BK879.out 2).trans rfl; have hfz55_0 := blk_frozen BK879.out 0; have hfz55_1 := blk_frozen BK879.out 1; have hfz55_2 := blk_frozen BK879.out 2; obtain ⟨Ao56, co56, eo56⟩ := Kd.R_slice HO876.out; subst eo56; have hcz57_0 : w51.cell? ⟨gb871, 0, none⟩ = some (.int .i64 t864) := (blk_cell BK871.out 0).trans rfl; have hcz57_1 : w51.cell? ⟨gb871, 1, none⟩ = some (.int .i64 t865) := (blk_cell BK871.out 1).trans rfl; have hcz57_2 : w51.cell? ⟨gb871, 2, none⟩ = some (.slice Ao47 t866.length co47) := (blk_cell BK871.out 2).trans rfl; have hfz57_0 := blk_frozen BK871.out 0; have hfz57_1 := blk_frozen BK871.out 1; have hfz57_2 := blk_frozen BK871.out 2) | ((with_reducible refine gate_callee (f := 50) rfl ?_); refine Hlp.gl (some 69) Try.func50 #[.agg #[.int .i64 t864, .int .i64 t865, .slice Ao47 t866.length co47], .agg #[.int .i64 t872, .int .i64 t873, .slice Ao56 t874.length co56]] ?_; (with_reducible refine (brokerref32_Same.calls t864 t865 _ _ t866 t872 t873 _ _ t874 true _ ?side1 ?side2 ?side3 ?side4 A28.out).mono ?_); (case side1 => refine (Kd.R_reads' (e := 5) (base := w.heap.size) (ok := fun k_ => ((True ∧ some k_ ≠ (.slice Ao40 y861.length co40 : Value).ownBlock) ∧ some k_ ≠ (.slice Ao56 t874.length co56 : Value).ownBlock)) (n := t866.length) (c := co47) ?_).2.2; exact (by (with_reducible repeat (first | apply Kd.R_alloc | apply Kd.R_drewN | apply Kd.R_drew)); exact (Kd.R_mono (Kd.R_far (p := ⟨gb879, 2, none⟩) (Kd.R_far (p := ⟨gb879, 1, none⟩) (Kd.R_far (p := ⟨gb879, 0, none⟩) (Kd.R_types HO868.out BK879.out (by decide)) (fun _ hk => hk.2) (.int .i64 t872)) (fun _ hk => hk.2) (.int .i64 t873)) (fun _ hk => hk.2) (.slice Ao56 t874.length co56)) (fun _ h_ => h_.1)))); (case side2 => exact (Kd.R_reads' HO868.out).2.1); (case side3 => refine (Kd.R_reads' (e := 5) (base := w.heap.size) (ok := fun k_ => ((True ∧ some k_ ≠ (.slice Ao40 y861.length co40 : Value).ownBlock) ∧ some k_ ≠ (.slice Ao47 t866.length co47 : Value).ownBlock)) (n := t874.length) (c := co56) ?_).2.2; exact (by (with_reducible repeat (first | apply Kd.R_alloc | apply Kd.R_drewN | apply Kd.R_drew)); exact (Kd.R_mono (Kd.R_far (p := ⟨gb879, 2, none⟩) (Kd.R_far (p := ⟨gb879, 1, none⟩) (Kd.R_far (p := ⟨gb879, 0, none⟩) (Kd.R_types HO876.out BK879.out (by decide)) (fun _ hk => hk.2) (.int .i64 t872)) (fun _ hk => hk.2) (.int .i64 t873)) (fun _ hk => hk.2) (.slice Ao56 t874.length co56)) (fun _ h_ => h_.1)))); (case side4 => exact (Kd.R_reads' HO876.out).2.1); rintro e w58 ⟨rfl, hb⟩; refine ⟨_, rfl, ?_⟩; replace HO863 := Aside0.mk (Kd.R_below (by (with_reducible repeat (first | apply Kd.R_alloc | apply Kd.R_drewN | apply Kd.R_drew)); exact (Kd.R_mono (Kd.R_far (p := ⟨gb879, 2, none⟩) (Kd.R_far (p := ⟨gb879, 1, none⟩) (Kd.R_far (p := ⟨gb879, 0, none⟩) (Kd.R_types HO863.out BK879.out (by decide)) (fun _ hk => hk.2) (.int .i64 t872)) (fun _ hk => hk.2) (.int .i64 t873)) (fun _ hk => hk.2) (.slice Ao56 t874.length co56)) (fun _ h_ => h_.1))) hb); replace HO868 := Aside0.mk (Kd.R_below (by (with_reducible repeat (first | apply Kd.R_alloc | apply Kd.R_drewN | apply Kd.R_drew)); exact (Kd.R_mono (Kd.R_far (p := ⟨gb879, 2, none⟩) (Kd.R_far (p := ⟨gb879, 1, none⟩) (Kd.R_far (p := ⟨gb879, 0, none⟩) (Kd.R_types HO868.out BK879.out (by decide)) (fun _ hk => hk.2) (.int .i64 t872)) (fun _ hk => hk.2) (.int .i64 t873)) (fun _ hk => hk.2) (.slice Ao56 t874.length co56)) (fun _ h_ => h_.1))) hb); replace HO876 := Aside0.mk (Kd.R_below (by (with_reducible repeat (first | apply Kd.R_alloc | apply Kd.R_drewN | apply Kd.R_drew)); exact (Kd.R_mono (Kd.R_far (p := ⟨gb879, 2, none⟩) (Kd.R_far (p := ⟨gb879, 1, none⟩) (Kd.R_far (p := ⟨gb879, 0, none⟩) (Kd.R_types HO876.out BK879.out (by decide)) (fun _ hk => hk.2) (.int .i64 t872)) (fun _ hk => hk.2) (.int .i64 t873)) (fun _ hk => hk.2) (.slice Ao56 t874.length co56)) (fun _ h_ => h_.1))) hb); replace BK854 := Aside0.mk (blk_below (g := gb854) (o := .cells #[.int .i64 a0_0, .int .i64 a0_1, .slice A0_2 l0_2.length c0_2] 43 (0, 0)) (by refine Hlp.bp (blk_far ?_ NB854_879.out _); refine Hlp.bp (blk_far ?_ NB854_879.out _); refine Hlp.bp (blk_far ?_ NB854_879.out _); exact Hlp.bp BK854.out) hb); replace BK855 := Aside0.mk (blk_below (g := gb855) (o := .cells #[.int .i64 a1_0, .int .i64 a1_1, .string a1_2, .string a1_3] 23 (0, 0)) (by refine Hlp.bp (blk_far ?_ NB855_879.out _); refine Hlp.bp (blk_far ?_ NB855_879.out _); refine Hlp.bp (blk_far ?_ NB855_879.out _); exact Hlp.bp BK855.out) hb); replace BK871 := Aside0.mk (blk_below (g := gb871) (o := .cells #[.int .i64 t864, .int .i64 t865, .slice Ao47 t866.length co47] 43 (0, 0)) (by refine Hlp.bp (blk_far ?_ NB871_879.out _); refine Hlp.bp (blk_far ?_ NB871_879.out _); refine Hlp.bp (blk_far ?_ NB871_879.out _); exact Hlp.bp BK871.out) hb); replace BK879 := Aside0.mk (blk_below (g := gb879) (o := .cells #[.int .i64 t872, .int .i64 t873, .slice Ao56 t874.length co56] 43 (0, 0)) (by refine Hlp.bp (blk_put (cs := #[.int .i64 t872, .int .i64 t873, .slice none 0 0]) ?_ 2 _ rfl); refine Hlp.bp (blk_put (cs := #[.int .i64 t872, .int .i64 0, .slice none 0 0]) ?_ 1 _ rfl); refine Hlp.bp (blk_put (cs := #[.int .i64 0, .int .i64 0, .slice none 0 0]) ?_ 0 _ rfl); exact Hlp.bp BK879.out) hb); replace HB := Aside0.mk (below_step (Hlp.bl HB.out) hb); (try clear hb); (try clear hb2); (try clear hk); (try clear hi); have hcv59 := own_string (P := Try.prog) Try.underlying28 Try.underlying5 Try.underlying9 (Kd.own_of_R HO863.out); have hcz60_0 : w58.cell? ⟨gb854, 0, none⟩ = some (.int .i64 a0_0) := (blk_cell BK854.out 0).trans rfl; have hcz60_1 : w58.cell? ⟨gb854, 1, none⟩ = some (.int .i64 a0_1) := (blk_cell BK854.out 1).trans rfl; have hcz60_2 : w58.cell? ⟨gb854, 2, none⟩ = some (.slice A0_2 l0_2.length c0_2) := (blk_cell BK854.out 2).trans rfl; have hfz60_0 := blk_frozen BK854.out 0; have hfz60_1 := blk_frozen BK854.out 1; have hfz60_2 := blk_frozen BK854.out 2; have hcv61 := Kd.C_string (P := Try.prog) (A := A0_2) (c := c0_2) Try.underlying28 Try.underlying5 Try.underlying9 (Kd.C_below HR0_2.out HB.out)) | (go_at_call 47; (with_reducible refine (brokerlaw32_awake.calls kj2  t881 _ A33.out).mono ?_); rintro e w62 ⟨rfl, hb⟩; replace HO863 := Aside0.mk (Kd.R_below (Hlp.rp HO863.out) hb); replace HO868 := Aside0.mk (Kd.R_below (Hlp.rp HO868.out) hb); replace HO876 := Aside0.mk (Kd.R_below (Hlp.rp HO876.out) hb); replace BK854 := Aside0.mk (blk_below (g := gb854) (o := .cells #[.int .i64 a0_0, .int .i64 a0_1, .slice A0_2 l0_2.length c0_2] 43 (0, 0)) (Hlp.bp BK854.out) hb); replace BK855 := Aside0.mk (blk_below (g := gb855) (o := .cells #[.int .i64 a1_0, .int .i64 a1_1, .string a1_2, .string a1_3] 23 (0, 0)) (Hlp.bp BK855.out) hb); replace BK871 := Aside0.mk (blk_below (g := gb871) (o := .cells #[.int .i64 t864, .int .i64 t865, .slice Ao47 t866.length co47] 43 (0, 0)) (Hlp.bp BK871.out) hb); replace BK879 := Aside0.mk (blk_below (g := gb879) (o := .cells #[.int .i64 t872, .int .i64 t873, .slice Ao56 t874.length co56] 43 (0, 0)) (Hlp.bp BK879.out) hb); replace HB := Aside0.mk (below_step (Hlp.bl HB.out) hb); (try clear hb); (try clear hb2); (try clear hk); (try clear hi)))
         go_ret
         exact ⟨by first | rfl | (simp [errW_none, errW_some] <;> rfl) | (simp [*, errW_none, errW_some] <;> rfl), Hlp.bl HB.out⟩
        ·
         rw [if_neg c32] at H
         have c32b0 : ((strOfNums y861).toList == (strOfNums l0_2).toList) = false := beq_eq_false_iff_ne.mpr c32
         have c32b1 : ((strOfNums y861).toList != (strOfNums l0_2).toList) = true := bne_iff_ne.mpr c32
         exact absurd H (by simp)
       ·
        rw [if_neg c31] at H
        have c31b0 : (t870 == t878) = false := beq_eq_false_iff_ne.mpr c31
        have c31b1 : (t870 != t878) = true := bne_iff_ne.mpr c31
        exact absurd H (by simp)
      ·
       rw [if_neg c30] at H
       have c30b0 : (t869 == t877) = false := beq_eq_false_iff_ne.mpr c30
       have c30b1 : (t869 != t877) = true := bne_iff_ne.mpr c30
       exact absurd H (by simp)
     ·
      replace c29 := Bool.eq_false_iff.mpr c29
      subst c29
      have H1 : (none) = some r := by rw [if_neg (show ¬ (false = true) by decide)] at H; exact H
      clear H
      have H := H1
      clear H1
      exact absurd H (by simp)
    ·
     rw [if_neg c25] at H
     exact absurd H (by simp)

end Go.Proofs.Ytkkelbakadbbhaa.J
