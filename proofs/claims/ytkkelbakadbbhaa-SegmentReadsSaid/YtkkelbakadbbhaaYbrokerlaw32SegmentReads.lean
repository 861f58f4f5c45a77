/- Lean functions that compute what the Go functions named below compute; each theorem '.calls': if its Lean function has an answer, the Go function returns it. -/
import Derived.Test.YtkkelbakadbbhaaYx0
import Derived.Test.YtkkelbakadbbhaaH
import Derived.Test.YtkkelbakadbbhaaYbrokerlaw32awake
import Derived.Test.YtkkelbakadbbhaaYref314
import Derived.Test.YtkkelbakadbbhaaYref320
import Derived.Test.YtkkelbakadbbhaaYref324
import Derived.Test.YtkkelbakadbbhaaYref325
import Derived.Test.YtkkelbakadbbhaaYsegment0
import Derived.Test.YtkkelbakadbbhaaYsegment1
namespace Go.Proofs.Ytkkelbakadbbhaa.J
open Go.RowKit Go.Proofs.YtkkelbakadbbhaaW.PrintWords Go.Proofs.YtkkelbakadbbhaaW.PrintLast Go.Proofs.YtkkelbakadbbhaaW.PrintMore
attribute [local go_sem] max2_int min2_int max_two min_two max_three min_three max_four min_four   -- for this text's walks alone
set_option linter.unusedVariables false
set_option linter.unusedSimpArgs false

/-! ### brokerlaw32_SegmentReads: function 16 -/
def brokerlaw32_SegmentReads.j0 : Nat → Int → Bool → Int → Int → List Int → Option (Bool)
 | 0, _, _, _, _, _ => none
 | k + 1, x1, x13, x905000, x905001, x905002 => if x13 = true then ((brokerlaw32_awake.f k).bind fun t906 => (some t906)) else ((segment_Records.f k x905000 x905001 x905002).bind fun t907 => ((brokerref32_Records.f k x905000 x905001 x905002).bind fun t910 => ((brokerref31_Same.f k t907 t910).bind fun t913 => (if t913 = true then ((segment_Truncate.f k x905000 x905001 x905002 x1).bind fun bt914 => ((brokerref32_Truncate.f k x905000 x905001 x905002 x1).bind fun bt919 => ((brokerref32_Same.f bt914.1 bt914.2.1 bt914.2.2 bt919.1 bt919.2.1 bt919.2.2).bind fun t924 => (if t924 = true then ((brokerlaw32_awake.f k).bind fun t925 => (some t925)) else (none))))) else (none)))))
def brokerlaw32_SegmentReads.f (k : Nat) (a0_0 : Int) (a0_1 : Int) (l0_2 : List Int) (a1 : Int) : Option (Bool) := if (l0_2.length : Int) > 4000 then (brokerlaw32_SegmentReads.j0 k a1 true a0_0 a0_1 l0_2) else ((brokerref32_Check.f k a0_0 a0_1 l0_2).bind fun t905 => (brokerlaw32_SegmentReads.j0 k a1 (t905 != 0) a0_0 a0_1 l0_2))
theorem brokerlaw32_SegmentReads.mono_l : ∀ k, (∀ y0 y1 y2 y3 y4, LeO (brokerlaw32_SegmentReads.j0 k y0 y1 y2 y3 y4) (brokerlaw32_SegmentReads.j0 (k + 1) y0 y1 y2 y3 y4))
 | 0 => fun _ _ _ _ _ r h => by simp [brokerlaw32_SegmentReads.j0] at h
 | k + 1 => by
  have ih0 := brokerlaw32_SegmentReads.mono_l k
  ·
   intro y0 y1 y2 y3 y4
   unfold brokerlaw32_SegmentReads.j0
   repeat' first
   | (with_reducible exact ih0 _ _ _ _ _)
   | (with_reducible exact brokerlaw32_awake.mono _)
   | (with_reducible exact brokerref31_Same.mono _ _ _)
   | (with_reducible exact brokerref32_Check.mono _ _ _ _)
   | (with_reducible exact brokerref32_Records.mono _ _ _ _)
   | (with_reducible exact brokerref32_Truncate.mono _ _ _ _ _)
   | (with_reducible exact segment_Records.mono _ _ _ _)
   | (with_reducible exact segment_Truncate.mono _ _ _ _ _)
   | (with_reducible exact LeO.refl _)
   | (with_reducible exact LeO.none _)
   | (with_reducible refine LeO.ite ?_ ?_)
   | (with_reducible refine LeO.bind ?_ (fun _ => ?_))
   | exact ih0 _ _ _ _ _
   | exact brokerlaw32_awake.mono _
   | exact brokerref31_Same.mono _ _ _
   | exact brokerref32_Check.mono _ _ _ _
   | exact brokerref32_Records.mono _ _ _ _
   | exact brokerref32_Truncate.mono _ _ _ _ _
   | exact segment_Records.mono _ _ _ _
   | exact segment_Truncate.mono _ _ _ _ _
   | exact LeO.none _
   | refine LeO.ite ?_ ?_
   | refine LeO.bind ?_ (fun _ => ?_)
theorem brokerlaw32_SegmentReads.mono : ∀ a0 a1 a2 a3 k, LeO (brokerlaw32_SegmentReads.f k a0 a1 a2 a3) (brokerlaw32_SegmentReads.f (k + 1) a0 a1 a2 a3) := by
 intro a0 a1 a2 a3 k
 have ih0 := brokerlaw32_SegmentReads.mono_l k
 unfold brokerlaw32_SegmentReads.f
 repeat' first
  | (with_reducible exact ih0 _ _ _ _ _)
  | (with_reducible exact brokerlaw32_awake.mono _)
  | (with_reducible exact brokerref31_Same.mono _ _ _)
  | (with_reducible exact brokerref32_Check.mono _ _ _ _)
  | (with_reducible exact brokerref32_Records.mono _ _ _ _)
  | (with_reducible exact brokerref32_Truncate.mono _ _ _ _ _)
  | (with_reducible exact segment_Records.mono _ _ _ _)
  | (with_reducible exact segment_Truncate.mono _ _ _ _ _)
  | (with_reducible exact LeO.refl _)
  | (with_reducible exact LeO.none _)
  | (with_reducible refine LeO.ite ?_ ?_)
  | (with_reducible refine LeO.bind ?_ (fun _ => ?_))
  | exact ih0 _ _ _ _ _
  | exact brokerlaw32_awake.mono _
  | exact brokerref31_Same.mono _ _ _
  | exact brokerref32_Check.mono _ _ _ _
  | exact brokerref32_Records.mono _ _ _ _
  | exact brokerref32_Truncate.mono _ _ _ _ _
  | exact segment_Records.mono _ _ _ _
  | exact segment_Truncate.mono _ _ _ _ _
  | exact LeO.none _
  | refine LeO.ite ?_ ?_
  | refine LeO.bind ?_ (fun _ => ?_)
def brokerlaw32_SegmentReads.T3 : Bool × List (List Nat × List Nat) := (true, [([], []), ([0], [0]), ([], []), ([2, 1], [2]), ([1, 3, 3], [1, 3]), ([4, 4], [4]), ([5], [5]), ([5], [5]), ([6, 7, 5, 5], [5, 6, 7]), ([5], [5]), ([5], [5]), ([9, 10, 8, 5], [5, 9, 10]), ([8, 11, 11, 5], [5, 8, 11]), ([5, 12], [5, 12]), ([13, 12], [13]), ([14, 14], [14]), ([14, 15], [14, 15]), ([16, 15, 0, 1, 2, 3, 4, 5, 6, 7, 8, 9, 10, 11, 12, 13, 14, 15, 16], [16])])
def brokerlaw32_SegmentReads.B3 : List Nat := [0, 1, 0, 7, 15, 31, 63, 63, 255, 63, 63, 2047, 4095, 8191, 16383, 32767, 65535, 131071]
theorem brokerlaw32_SegmentReads.tab3 : rtab .any (opsOf Try.f16 3) = brokerlaw32_SegmentReads.T3 := by kernel_rfl
theorem brokerlaw32_SegmentReads.bits3 : waitsOk brokerlaw32_SegmentReads.T3.2 brokerlaw32_SegmentReads.B3 = true := by kernel_rfl
set_option maxHeartbeats 8000000 in
set_option maxRecDepth 100000 in
theorem brokerlaw32_SegmentReads.calls (k : Nat) (a0_0 : Int) (a0_1 : Int) (A0_2 : Option Addr) (c0_2 : Nat) (l0_2 : List Int) (a1 : Int) (r : Bool) (w : World) (hr0_2 : Kd.C (Kd.int .u8) w A0_2 l0_2.length l0_2) (hc0_2 : l0_2.length ≤ c0_2) (h : brokerlaw32_SegmentReads.f k a0_0 a0_1 l0_2 a1 = some r) :
 Calls Try.prog 16 #[.agg #[.int .i64 a0_0, .int .i64 a0_1, .slice A0_2 l0_2.length c0_2], .int .i64 a1] w fun e w' => e = .returned (.bool r) ∧ Below w.heap.size w w' := by
 have hu43 := Try.underlying43
 have HR0_2 := Aside0.mk hr0_2
 have HC0_2 := Aside0.mk hc0_2
 clear hr0_2 hc0_2
 have HB := Aside0.mk (Below.refl w.heap.size w)
 have H : (if (l0_2.length : Int) > 4000 then (brokerlaw32_SegmentReads.j0 k a1 true a0_0 a0_1 l0_2) else ((brokerref32_Check.f k a0_0 a0_1 l0_2).bind fun t905 => (brokerlaw32_SegmentReads.j0 k a1 (t905 != 0) a0_0 a0_1 l0_2))) = some r := h
 clear h
 have HC3 := Aside0.mk H
 clear H
 go_enter Try.func16, Try.ntmps16
 go_upto_region 1 with (first | ((with_reducible refine gate_dst (N := 2) rfl ?_); refine Hlp.bx (N := 2) (cs := #[.int .i64 a0_0, .int .i64 a0_1, .slice A0_2 l0_2.length c0_2]) (t := 43) ?_; intro gb904 hg w4 hbox hb; have BK904 := Aside0.mk (hbox); have GW904 := Aside0.mk ((by rw [hg]; exact (below_size (Hlp.bl HB.out)) : w.heap.size ≤ gb904)); have GE904 := Aside0.mk ((by rw [hg]; exact (below_size (Hlp.bl HB.out)) : w.heap.size ≤ gb904)); replace HB := Aside0.mk (below_step (Hlp.bl HB.out) hb); clear hb hbox hg))
 (try simp only [Act.put, List.setIfInBounds_toArray, List.set_cons_zero, List.set_cons_succ])
 go_cut [13] (fun v13 wc => ∃ (kq : Nat) (x13_2 : Bool), v13 = .bool x13_2 ∧ Aside0 (brokerlaw32_SegmentReads.j0 kq a1 x13_2 a0_0 a0_1 l0_2 = some r) ∧ Aside0 (kq ≤ k) ∧ Aside0 (wc.heap[gb904]? = some (.cells #[.int .i64 a0_0, .int .i64 a0_1, (.slice A0_2 l0_2.length c0_2)] 43 (0, 0))) ∧ Aside0 (Below w.heap.size w wc))
 case first =>
  have H := HC3.out
  clear HC3
  by_cases c5 : (l0_2.length : Int) > 4000
  ·
   rw [if_pos c5] at H
   have c5b0 : decide (4000 < (l0_2.length : Int)) = true := decide_eq_true c5
   have c5b1 : decide (4000 < l0_2.length) = true := decide_eq_true (by omega)
   clear c5
   (first | rw [c5b0] | (simp only [i64_w, i32_w]; rw [c5b0]) | skip)
   have H' := Aside0.mk H
   clear H
   have hcz6_0 : w4.cell? ⟨gb904, 0, none⟩ = some (.int .i64 a0_0) := (blk_cell BK904.out 0).trans rfl
   have hcz6_1 : w4.cell? ⟨gb904, 1, none⟩ = some (.int .i64 a0_1) := (blk_cell BK904.out 1).trans rfl
   have hcz6_2 : w4.cell? ⟨gb904, 2, none⟩ = some (.slice A0_2 l0_2.length c0_2) := (blk_cell BK904.out 2).trans rfl
   have hfz6_0 := blk_frozen BK904.out 0
   have hfz6_1 := blk_frozen BK904.out 1
   have hfz6_2 := blk_frozen BK904.out 2
   go_wp2
   go_meet
   case rel => exact ⟨_, (true), (by first | rfl | (simp; done) | (simp [*]; done)), H', ⟨by first | omega | exact Nat.le_refl _⟩, ⟨by exact Hlp.bp BK904.out⟩, ⟨Hlp.bl HB.out⟩⟩
  ·
   rw [if_neg c5] at H
   have c5b0 : decide (4000 < (l0_2.length : Int)) = false := decide_eq_false c5
   have c5b1 : decide (4000 < l0_2.length) = false := decide_eq_false (by omega)
   clear c5
   (first | rw [c5b0] | (simp only [i64_w, i32_w]; rw [c5b0]) | skip)
   replace H := Option.bind_eq_some_iff.mp H
   obtain ⟨t905, A70, H⟩ := H
   replace H : (brokerlaw32_SegmentReads.j0 k a1 (t905 != 0) a0_0 a0_1 l0_2) = some r := H
   have A7 := Aside0.mk A70
   clear A70
   have H' := Aside0.mk H
   clear H
   have hcz8_0 : w4.cell? ⟨gb904, 0, none⟩ = some (.int .i64 a0_0) := (blk_cell BK904.out 0).trans rfl
   have hcz8_1 : w4.cell? ⟨gb904, 1, none⟩ = some (.int .i64 a0_1) := (blk_cell BK904.out 1).trans rfl
   have hcz8_2 : w4.cell? ⟨gb904, 2, none⟩ = some (.slice A0_2 l0_2.length c0_2) := (blk_cell BK904.out 2).trans rfl
   have hfz8_0 := blk_frozen BK904.out 0
   have hfz8_1 := blk_frozen BK904.out 1
   have hfz8_2 := blk_frozen BK904.out 2
   go_wp2_with (first | (go_at_call 49; (with_reducible refine (brokerref32_Check.calls k a0_0 a0_1 _ _ l0_2 t905 _ ?side1 ?side2 A7.out).mono ?_); (case side1 => exact Hlp.cp (Kd.C_below HR0_2.out HB.out)); (case side2 => exact HC0_2.out); rintro e w9 ⟨rfl, hb⟩; replace BK904 := Aside0.mk (blk_below (g := gb904) (o := .cells #[.int .i64 a0_0, .int .i64 a0_1, .slice A0_2 l0_2.length c0_2] 43 (0, 0)) (Hlp.bp BK904.out) hb); replace HB := Aside0.mk (below_step (Hlp.bl HB.out) hb); (try clear hb); (try clear hb2); (try clear hk); (try clear hi)))
   go_meet
   case rel => exact ⟨_, ((t905 != 0)), (by first | rfl | (simp; done) | (simp [*]; done)), H', ⟨by first | omega | exact Nat.le_refl _⟩, ⟨by exact Hlp.bp BK904.out⟩, ⟨Hlp.bl HB.out⟩⟩
 case rest =>
  clear HC3
  try clear c1
  try clear p2
  try clear c5
  try clear c5b0
  try clear c5b1
  try clear hcz6_0
  try clear hcz6_1
  try clear hcz6_2
  try clear hcz8_0
  try clear hcz8_1
  try clear hcz8_2
  try clear hfz6_0
  try clear hfz6_1
  try clear hfz6_2
  try clear hfz8_0
  try clear hfz8_1
  try clear hfz8_2
  obtain ⟨kq, x13_2, rfl, HA, HJ2, BK904, HB⟩ := hcut
  cases kq with
  | zero => exact absurd HA.out (by simp [brokerlaw32_SegmentReads.j0])
  | succ kj2 =>
   have H := HA.out
   clear HA
   simp only [brokerlaw32_SegmentReads.j0] at H
   by_cases c10 : x13_2 = true
   ·
    subst c10
    have H1 : ((brokerlaw32_awake.f kj2).bind fun t906 => (some t906)) = some r := by rw [if_pos rfl] at H; exact H
    clear H
    have H := H1
    clear H1
    replace H := Option.bind_eq_some_iff.mp H
    obtain ⟨t906, A110, H⟩ := H
    replace H : (some t906) = some r := H
    have A11 := Aside0.mk A110
    clear A110
    obtain rfl := Option.some.inj H
    go_wp2_with (first | ((with_reducible refine gate_callee (f := 47) rfl ?_); refine Hlp.gl (some 14) Try.func47 #[] ?_; (with_reducible refine (brokerlaw32_awake.calls kj2  t906 _ A11.out).mono ?_); rintro e w12 ⟨rfl, hb⟩; refine ⟨_, rfl, ?_⟩; replace BK904 := Aside0.mk (blk_below (g := gb904) (o := .cells #[.int .i64 a0_0, .int .i64 a0_1, .slice A0_2 l0_2.length c0_2] 43 (0, 0)) (Hlp.bp BK904.out) hb); replace HB := Aside0.mk (below_step (Hlp.bl HB.out) hb); (try clear hb); (try clear hb2); (try clear hk); (try clear hi)))
    go_ret
    exact ⟨by first | rfl | (simp [errW_none, errW_some] <;> rfl) | (simp [*, errW_none, errW_some] <;> rfl), Hlp.bl HB.out⟩
   ·
    replace c10 := Bool.eq_false_iff.mpr c10
    subst c10
    have H1 : ((segment_Records.f kj2 a0_0 a0_1 l0_2).bind fun t907 => ((brokerref32_Records.f kj2 a0_0 a0_1 l0_2).bind fun t910 => ((brokerref31_Same.f kj2 t907 t910).bind fun t913 => (if t913 = true then ((segment_Truncate.f kj2 a0_0 a0_1 l0_2 a1).bind fun bt914 => ((brokerref32_Truncate.f kj2 a0_0 a0_1 l0_2 a1).bind fun bt919 => ((brokerref32_Same.f bt914.1 bt914.2.1 bt914.2.2 bt919.1 bt919.2.1 bt919.2.2).bind fun t924 => (if t924 = true then ((brokerlaw32_awake.f kj2).bind fun t925 => (some t925)) else (none))))) else (none))))) = some r := by rw [if_neg (show ¬ (false = true) by decide)] at H; exact H
    clear H
    have H := H1
    clear H1
    replace H := Option.bind_eq_some_iff.mp H
    obtain ⟨t907, A130, H⟩ := H
    replace H : ((brokerref32_Records.f kj2 a0_0 a0_1 l0_2).bind fun t910 => ((brokerref31_Same.f kj2 t907 t910).bind fun t913 => (if t913 = true then ((segment_Truncate.f kj2 a0_0 a0_1 l0_2 a1).bind fun bt914 => ((brokerref32_Truncate.f kj2 a0_0 a0_1 l0_2 a1).bind fun bt919 => ((brokerref32_Same.f bt914.1 bt914.2.1 bt914.2.2 bt919.1 bt919.2.1 bt919.2.2).bind fun t924 => (if t924 = true then ((brokerlaw32_awake.f kj2).bind fun t925 => (some t925)) else (none))))) else (none)))) = some r := H
    have A13 := Aside0.mk A130
    clear A130
    replace H := Option.bind_eq_some_iff.mp H
    obtain ⟨t910, A140, H⟩ := H
    replace H : ((brokerref31_Same.f kj2 t907 t910).bind fun t913 => (if t913 = true then ((segment_Truncate.f kj2 a0_0 a0_1 l0_2 a1).bind fun bt914 => ((brokerref32_Truncate.f kj2 a0_0 a0_1 l0_2 a1).bind fun bt919 => ((brokerref32_Same.f bt914.1 bt914.2.1 bt914.2.2 bt919.1 bt919.2.1 bt919.2.2).bind fun t924 => (if t924 = true then ((brokerlaw32_awake.f kj2).bind fun t925 => (some t925)) else (none))))) else (none))) = some r := H
    have A14 := Aside0.mk A140
    clear A140
    replace H := Option.bind_eq_some_iff.mp H
    obtain ⟨t913, A150, H⟩ := H
    replace H : (if t913 = true then ((segment_Truncate.f kj2 a0_0 a0_1 l0_2 a1).bind fun bt914 => ((brokerref32_Truncate.f kj2 a0_0 a0_1 l0_2 a1).bind fun bt919 => ((brokerref32_Same.f bt914.1 bt914.2.1 bt914.2.2 bt919.1 bt919.2.1 bt919.2.2).bind fun t924 => (if t924 = true then ((brokerlaw32_awake.f kj2).bind fun t925 => (some t925)) else (none))))) else (none)) = some r := H
    have A15 := Aside0.mk A150
    clear A150
    by_cases c16 : t913 = true
    ·
     subst c16
     have H1 : ((segment_Truncate.f kj2 a0_0 a0_1 l0_2 a1).bind fun bt914 => ((brokerref32_Truncate.f kj2 a0_0 a0_1 l0_2 a1).bind fun bt919 => ((brokerref32_Same.f bt914.1 bt914.2.1 bt914.2.2 bt919.1 bt919.2.1 bt919.2.2).bind fun t924 => (if t924 = true then ((brokerlaw32_awake.f kj2).bind fun t925 => (some t925)) else (none))))) = some r := by rw [if_pos rfl] at H; exact H
     clear H
     have H := H1
     clear H1
     replace H := Option.bind_eq_some_iff.mp H
     obtain ⟨⟨t914, t915, t916⟩, A170, H⟩ := H
     replace H : ((brokerref32_Truncate.f kj2 a0_0 a0_1 l0_2 a1).bind fun bt919 => ((brokerref32_Same.f t914 t915 t916 bt919.1 bt919.2.1 bt919.2.2).bind fun t924 => (if t924 = true then ((brokerlaw32_awake.f kj2).bind fun t925 => (some t925)) else (none)))) = some r := H
     have A17 := Aside0.mk A170
     clear A170
     replace H := Option.bind_eq_some_iff.mp H
     obtain ⟨⟨t919, t920, t921⟩, A180, H⟩ := H
     replace H : ((brokerref32_Same.f t914 t915 t916 t919 t920 t921).bind fun t924 => (if t924 = true then ((brokerlaw32_awake.f kj2).bind fun t925 => (some t925)) else (none))) = some r := H
     have A18 := Aside0.mk A180
     clear A180
     replace H := Option.bind_eq_some_iff.mp H
     obtain ⟨t924, A190, H⟩ := H
     replace H : (if t924 = true then ((brokerlaw32_awake.f kj2).bind fun t925 => (some t925)) else (none)) = some r := H
     have A19 := Aside0.mk A190
     clear A190
     by_cases c20 : t924 = true
     ·
      subst c20
      have H1 : ((brokerlaw32_awake.f kj2).bind fun t925 => (some t925)) = some r := by rw [if_pos rfl] at H; exact H
      clear H
      have H := H1
      clear H1
      replace H := Option.bind_eq_some_iff.mp H
      obtain ⟨t925, A210, H⟩ := H
      replace H : (some t925) = some r := H
      have A21 := Aside0.mk A210
      clear A210
      obtain rfl := Option.some.inj H
      try go_wp2
      replace BK904 := Aside0.mk (blk_drew BK904.out)
      replace HB := Aside0.mk (below_drew1 HB.out)
      refine start_ (n := 18) (S := fun w' => w'.cell? ⟨gb904, 0, none⟩ = some (.int .i64 a0_0) ∧ w'.cell? ⟨gb904, 1, none⟩ = some (.int .i64 a0_1) ∧ w'.cell? ⟨gb904, 2, none⟩ = some (.slice A0_2 l0_2.length c0_2)) (ds := []) #[false, false, false, false, false, false, false, false, false, false, false, false, false, false, false, false, false, false] (by kernel_rfl) rfl rfl ⟨(blk_cell BK904.out 0).trans rfl, (blk_cell BK904.out 1).trans rfl, (blk_cell BK904.out 2).trans rfl⟩ (fun hHeld => ?_); refine with_tabW brokerlaw32_SegmentReads.tab3 brokerlaw32_SegmentReads.bits3 (fun HT_ HW_ => ?_)
      generalize wc.drew = w22 at BK904 HB hHeld ⊢
      refine take_ (i := 0) (N := some 15) (v := ?_) (a' := ?_) #[true, false, false, false, false, false, false, false, false, false, false, false, false, false, false, false, false, false] rfl rfl (take_ofW HT_.out HW_.out (by kernel_rfl)) (fun _ _ _ h => h) (Or.inl ⟨by rfl, ?_⟩) hHeld ?_ ?_
      rotate_left
      ·
       rintro w' ⟨s0, s1, s2⟩
       go_simp
       with_reducible rfl
      rotate_left
      ·
       simp only [Act.put, List.setIfInBounds_toArray, List.set_cons_zero, List.set_cons_succ, i64_w, i32_w]
       rfl
      refine take_ (i := 2) (N := some 17) (v := ?_) (a' := ?_) #[true, false, true, false, false, false, false, false, false, false, false, false, false, false, false, false, false, false] rfl rfl (take_ofW HT_.out HW_.out (by kernel_rfl)) (fun _ _ _ h => h) (Or.inl ⟨by rfl, ?_⟩) hHeld ?_ ?_
      rotate_left
      ·
       rintro w' ⟨s0, s1, s2⟩
       go_simp
       with_reducible rfl
      rotate_left
      ·
       simp only [Act.put, List.setIfInBounds_toArray, List.set_cons_zero, List.set_cons_succ, i64_w, i32_w]
       rfl
      refine one_ (i := 1) (N := some 16) #[true, true, true, false, false, false, false, false, false, false, false, false, false, false, false, false, false, false] rfl rfl (one_of HT_.out (by kernel_rfl)) (by decide) (fun K hK => ?_)
      refine goes_ Try.func55 (by kernel_rfl) rfl #[.agg #[.int .i64 a0_0, .int .i64 a0_1, .slice A0_2 l0_2.length c0_2]] (by rfl) rfl rfl (by (try simp only [List.map_toArray, List.map_cons, List.map_nil]); first | done | rfl | (simp only [List.length_drop, List.length_take]; rfl)) ?_
      with_reducible refine (segment_Records.calls kj2 a0_0 a0_1 _ _ l0_2 t907 _ ?side1 ?side2 A13.out).mono ?_
      (case side1 => exact Hlp.cp (Kd.C_below HR0_2.out HB.out))
      (case side2 => exact HC0_2.out)
      rintro e w23 ⟨v908, rfl, ho0, hb⟩
      refine ⟨_, rfl, ?_⟩
      have HO909 := Aside0.mk (Kd.R_lower ho0 (below_size (Hlp.bl HB.out)))
      replace BK904 := Aside0.mk (blk_below (g := gb904) (o := .cells #[.int .i64 a0_0, .int .i64 a0_1, .slice A0_2 l0_2.length c0_2] 43 (0, 0)) (Hlp.bp BK904.out) hb)
      replace HB := Aside0.mk (below_step (Hlp.bl HB.out) hb)
      (try clear hb)
      (try clear hb2)
      (try clear hk)
      (try clear hi)
      (try clear ho0)
      refine hK.out _ _ ⟨(blk_cell BK904.out 0).trans rfl, (blk_cell BK904.out 1).trans rfl, (blk_cell BK904.out 2).trans rfl⟩ (fun hHeld => ?_)
      clear hK K
      refine norm_ (a' := ?_) ?_ ?_
      rotate_left
      ·
       show Act.put _ (some 16) _ = _
       simp only [Act.put, List.setIfInBounds_toArray, List.set_cons_zero, List.set_cons_succ, i64_w, i32_w]
       rfl
      refine one_ (i := 3) (N := some 18) #[true, true, true, true, false, false, false, false, false, false, false, false, false, false, false, false, false, false] rfl rfl (one_of HT_.out (by kernel_rfl)) (by decide) (fun K hK => ?_)
      refine goes_ Try.func56 (by kernel_rfl) rfl #[.agg #[.int .i64 a0_0, .int .i64 a0_1, .slice A0_2 l0_2.length c0_2]] (by rfl) rfl rfl (by (try simp only [List.map_toArray, List.map_cons, List.map_nil]); first | done | rfl | (simp only [List.length_drop, List.length_take]; rfl)) ?_
      with_reducible refine (brokerref32_Records.calls kj2 a0_0 a0_1 _ _ l0_2 t910 _ ?side1 ?side2 A14.out).mono ?_
      (case side1 => exact Hlp.cp (Kd.C_below HR0_2.out HB.out))
      (case side2 => exact HC0_2.out)
      rintro e w24 ⟨v911, rfl, ho0, hb⟩
      refine ⟨_, rfl, ?_⟩
      have HO912 := Aside0.mk (Kd.R_lower (Kd.R_new' ho0 (Kd.R_lt (Hlp.rp HO909.out))) (below_size (Hlp.bl HB.out)))
      replace HO909 := Aside0.mk (Kd.R_elder' (Hlp.rp HO909.out) (Kd.R_base ho0) hb)
      replace BK904 := Aside0.mk (blk_below (g := gb904) (o := .cells #[.int .i64 a0_0, .int .i64 a0_1, .slice A0_2 l0_2.length c0_2] 43 (0, 0)) (Hlp.bp BK904.out) hb)
      replace HB := Aside0.mk (below_step (Hlp.bl HB.out) hb)
      (try clear hb)
      (try clear hb2)
      (try clear hk)
      (try clear hi)
      (try clear ho0)
      obtain ⟨Ao25, co25, eo25⟩ := Kd.R_slice HO909.out
      (first | subst eo25 | (injection eo25 with f1_ f2_ f3_; have f4_ := f1_.symm; have f5_ := f3_.symm; clear f1_ f2_ f3_; subst f4_; subst f5_))
      obtain ⟨Ao26, co26, eo26⟩ := Kd.R_slice HO912.out
      (first | subst eo26 | (injection eo26 with f1_ f2_ f3_; have f4_ := f1_.symm; have f5_ := f3_.symm; clear f1_ f2_ f3_; subst f4_; subst f5_))
      refine hK.out _ _ ⟨(blk_cell BK904.out 0).trans rfl, (blk_cell BK904.out 1).trans rfl, (blk_cell BK904.out 2).trans rfl⟩ (fun hHeld => ?_)
      clear hK K
      refine norm_ (a' := ?_) ?_ ?_
      rotate_left
      ·
       show Act.put _ (some 18) _ = _
       simp only [Act.put, List.setIfInBounds_toArray, List.set_cons_zero, List.set_cons_succ, i64_w, i32_w]
       rfl
      refine one_ (i := 4) (N := some 19) #[true, true, true, true, true, false, false, false, false, false, false, false, false, false, false, false, false, false] rfl rfl (one_of HT_.out (by kernel_rfl)) (by decide) (fun K hK => ?_)
      refine goes_ Try.func42 (by kernel_rfl) rfl #[.slice Ao25 t907.length co25, .slice Ao26 t910.length co26] (by rfl) rfl rfl (by (try simp only [List.map_toArray, List.map_cons, List.map_nil]); first | done | rfl | (simp only [List.length_drop, List.length_take]; rfl)) ?_
      with_reducible refine (brokerref31_Same.calls kj2 _ _ t907 _ _ t910 true _ ?side1 ?side2 ?side3 ?side4 A15.out).mono ?_
      (case side1 => exact Hlp.cp (Kd.R_reads' HO909.out).2.2)
      (case side2 => exact (Kd.R_reads' HO909.out).2.1)
      (case side3 => exact Hlp.cp (Kd.R_reads' HO912.out).2.2)
      (case side4 => exact (Kd.R_reads' HO912.out).2.1)
      rintro e w' ⟨rfl, ⟨nd, rfl⟩⟩
      refine ⟨_, rfl, ?_⟩
      refine hK.out _ _ ⟨(blk_cell BK904.out 0).trans rfl, (blk_cell BK904.out 1).trans rfl, (blk_cell BK904.out 2).trans rfl⟩ (fun hHeld => ?_)
      clear hK K
      refine norm_ (a' := ?_) ?_ ?_
      rotate_left
      ·
       show Act.put _ (some 19) _ = _
       simp only [Act.put, List.setIfInBounds_toArray, List.set_cons_zero, List.set_cons_succ, i64_w, i32_w]
       rfl
      refine pure_ (i := 5) (N := some 20) (v := ?_) (a' := ?_) #[true, true, true, true, true, true, false, false, false, false, false, false, false, false, false, false, false, false] rfl rfl (any_of HT_.out (by kernel_rfl)) (fun _ _ _ h => h) (Or.inl ⟨by rfl, ?_⟩) ?_ ?_
      rotate_left
      ·
       intro w'
       go_simp
       with_reducible rfl
      rotate_left
      ·
       simp only [Act.put, List.setIfInBounds_toArray, List.set_cons_zero, List.set_cons_succ, i64_w, i32_w]
       rfl
      refine pure_ (i := 7) (N := some 22) (v := ?_) (a' := ?_) #[true, true, true, true, true, true, false, true, false, false, false, false, false, false, false, false, false, false] rfl rfl (any_of HT_.out (by kernel_rfl)) (fun _ _ _ h => h) (Or.inl ⟨by rfl, ?_⟩) ?_ ?_
      rotate_left
      ·
       intro w'
       go_simp
       with_reducible rfl
      rotate_left
      ·
       simp only [Act.put, List.setIfInBounds_toArray, List.set_cons_zero, List.set_cons_succ, i64_w, i32_w]
       rfl
      refine pure_ (i := 10) (N := some 25) (v := ?_) (a' := ?_) #[true, true, true, true, true, true, false, true, false, false, true, false, false, false, false, false, false, false] rfl rfl (any_of HT_.out (by kernel_rfl)) (fun _ _ _ h => h) (Or.inl ⟨by rfl, ?_⟩) ?_ ?_
      rotate_left
      ·
       intro w'
       go_simp
       with_reducible rfl
      rotate_left
      ·
       simp only [Act.put, List.setIfInBounds_toArray, List.set_cons_zero, List.set_cons_succ, i64_w, i32_w]
       rfl
      refine take_ (i := 6) (N := some 21) (v := ?_) (a' := ?_) #[true, true, true, true, true, true, true, true, false, false, true, false, false, false, false, false, false, false] rfl rfl (take_ofW HT_.out HW_.out (by kernel_rfl)) (fun _ _ _ h => h) (Or.inl ⟨by rfl, ?_⟩) hHeld ?_ ?_
      rotate_left
      ·
       rintro w' ⟨s0, s1, s2⟩
       go_simp
       with_reducible rfl
      rotate_left
      ·
       simp only [Act.put, List.setIfInBounds_toArray, List.set_cons_zero, List.set_cons_succ, i64_w, i32_w]
       rfl
      refine take_ (i := 9) (N := some 24) (v := ?_) (a' := ?_) #[true, true, true, true, true, true, true, true, false, true, true, false, false, false, false, false, false, false] rfl rfl (take_ofW HT_.out HW_.out (by kernel_rfl)) (fun _ _ _ h => h) (Or.inl ⟨by rfl, ?_⟩) hHeld ?_ ?_
      rotate_left
      ·
       rintro w' ⟨s0, s1, s2⟩
       go_simp
       with_reducible rfl
      rotate_left
      ·
       simp only [Act.put, List.setIfInBounds_toArray, List.set_cons_zero, List.set_cons_succ, i64_w, i32_w]
       rfl
      refine one_ (i := 8) (N := some 23) #[true, true, true, true, true, true, true, true, true, true, true, false, false, false, false, false, false, false] rfl rfl (one_of HT_.out (by kernel_rfl)) (by decide) (fun K hK => ?_)
      refine goes_ Try.func57 (by kernel_rfl) rfl #[.agg #[.int .i64 a0_0, .int .i64 a0_1, .slice A0_2 l0_2.length c0_2], .int .i64 a1] (by rfl) rfl rfl (by (try simp only [List.map_toArray, List.map_cons, List.map_nil]); first | done | rfl | (simp only [List.length_drop, List.length_take]; rfl)) ?_
      with_reducible refine (segment_Truncate.calls kj2 a0_0 a0_1 _ _ l0_2 a1 t914 t915 t916 _ ?side1 ?side2 A17.out).mono ?_
      (case side1 => exact Hlp.cp (Kd.C_below HR0_2.out (Hlp.bl HB.out)))
      (case side2 => exact HC0_2.out)
      rintro e w27 ⟨v917, rfl, ho0, hb⟩
      refine ⟨_, rfl, ?_⟩
      replace HO909 := Aside0.mk (Kd.R_below (Hlp.rp HO909.out) hb)
      replace HO912 := Aside0.mk (Kd.R_below (Hlp.rp HO912.out) hb)
      have HO918 := Aside0.mk (Kd.R_lower ho0 (below_size (Hlp.bl HB.out)))
      replace BK904 := Aside0.mk (blk_below (g := gb904) (o := .cells #[.int .i64 a0_0, .int .i64 a0_1, .slice A0_2 l0_2.length c0_2] 43 (0, 0)) (Hlp.bp BK904.out) hb)
      replace HB := Aside0.mk (below_step (Hlp.bl HB.out) hb)
      (try clear hb)
      (try clear hb2)
      (try clear hk)
      (try clear hi)
      (try clear ho0)
      refine hK.out _ _ ⟨(blk_cell BK904.out 0).trans rfl, (blk_cell BK904.out 1).trans rfl, (blk_cell BK904.out 2).trans rfl⟩ (fun hHeld => ?_)
      clear hK K
      refine norm_ (a' := ?_) ?_ ?_
      rotate_left
      ·
       show Act.put _ (some 23) _ = _
       simp only [Act.put, List.setIfInBounds_toArray, List.set_cons_zero, List.set_cons_succ, i64_w, i32_w]
       rfl
      refine one_ (i := 11) (N := some 26) #[true, true, true, true, true, true, true, true, true, true, true, true, false, false, false, false, false, false] rfl rfl (one_of HT_.out (by kernel_rfl)) (by decide) (fun K hK => ?_)
      refine goes_ Try.func58 (by kernel_rfl) rfl #[.agg #[.int .i64 a0_0, .int .i64 a0_1, .slice A0_2 l0_2.length c0_2], .int .i64 a1] (by rfl) rfl rfl (by (try simp only [List.map_toArray, List.map_cons, List.map_nil]); first | done | rfl | (simp only [List.length_drop, List.length_take]; rfl)) ?_
      with_reducible refine (brokerref32_Truncate.calls kj2 a0_0 a0_1 _ _ l0_2 a1 t919 t920 t921 _ ?side1 ?side2 A18.out).mono ?_
      (case side1 => exact Hlp.cp (Kd.C_below HR0_2.out HB.out))
      (case side2 => exact HC0_2.out)
      rintro e w28 ⟨v922, rfl, ho0, hb⟩
      refine ⟨_, rfl, ?_⟩
      replace HO909 := Aside0.mk (Kd.R_below (Hlp.rp HO909.out) hb)
      replace HO912 := Aside0.mk (Kd.R_below (Hlp.rp HO912.out) hb)
      have HO923 := Aside0.mk (Kd.R_lower (Kd.R_new' ho0 (Kd.R_lt (Hlp.rp HO918.out))) (below_size (Hlp.bl HB.out)))
      replace HO918 := Aside0.mk (Kd.R_elder' (Hlp.rp HO918.out) (Kd.R_base ho0) hb)
      replace BK904 := Aside0.mk (blk_below (g := gb904) (o := .cells #[.int .i64 a0_0, .int .i64 a0_1, .slice A0_2 l0_2.length c0_2] 43 (0, 0)) (Hlp.bp BK904.out) hb)
      replace HB := Aside0.mk (below_step (Hlp.bl HB.out) hb)
      (try clear hb)
      (try clear hb2)
      (try clear hk)
      (try clear hi)
      (try clear ho0)
      obtain ⟨Ao29, co29, eo29⟩ := Kd.R_slice HO918.out
      (first | subst eo29 | (injection eo29 with f1_ f2_ f3_; have f4_ := f1_.symm; have f5_ := f3_.symm; clear f1_ f2_ f3_; subst f4_; subst f5_))
      obtain ⟨Ao30, co30, eo30⟩ := Kd.R_slice HO923.out
      (first | subst eo30 | (injection eo30 with f1_ f2_ f3_; have f4_ := f1_.symm; have f5_ := f3_.symm; clear f1_ f2_ f3_; subst f4_; subst f5_))
      refine hK.out _ _ ⟨(blk_cell BK904.out 0).trans rfl, (blk_cell BK904.out 1).trans rfl, (blk_cell BK904.out 2).trans rfl⟩ (fun hHeld => ?_)
      clear hK K
      refine norm_ (a' := ?_) ?_ ?_
      rotate_left
      ·
       show Act.put _ (some 26) _ = _
       simp only [Act.put, List.setIfInBounds_toArray, List.set_cons_zero, List.set_cons_succ, i64_w, i32_w]
       rfl
      refine one_ (i := 12) (N := some 27) #[true, true, true, true, true, true, true, true, true, true, true, true, true, false, false, false, false, false] rfl rfl (one_of HT_.out (by kernel_rfl)) (by decide) (fun K hK => ?_)
      refine goes_ Try.func50 (by kernel_rfl) rfl #[.agg #[.int .i64 t914, .int .i64 t915, .slice Ao29 t916.length co29], .agg #[.int .i64 t919, .int .i64 t920, .slice Ao30 t921.length co30]] (by rfl) rfl rfl (by (try simp only [List.map_toArray, List.map_cons, List.map_nil]); first | done | rfl | (simp only [List.length_drop, List.length_take]; rfl)) ?_
      with_reducible refine (brokerref32_Same.calls t914 t915 _ _ t916 t919 t920 _ _ t921 true _ ?side1 ?side2 ?side3 ?side4 A19.out).mono ?_
      (case side1 => exact Hlp.cp (Kd.R_reads' HO918.out).2.2)
      (case side2 => exact (Kd.R_reads' HO918.out).2.1)
      (case side3 => exact Hlp.cp (Kd.R_reads' HO923.out).2.2)
      (case side4 => exact (Kd.R_reads' HO923.out).2.1)
      rintro e w31 ⟨rfl, hb⟩
      refine ⟨_, rfl, ?_⟩
      replace HO909 := Aside0.mk (Kd.R_below (Hlp.rp HO909.out) hb)
      replace HO912 := Aside0.mk (Kd.R_below (Hlp.rp HO912.out) hb)
      replace HO918 := Aside0.mk (Kd.R_below (Hlp.rp HO918.out) hb)
      replace HO923 := Aside0.mk (Kd.R_below (Hlp.rp HO923.out) hb)
      replace BK904 := Aside0.mk (blk_below (g := gb904) (o := .cells #[.int .i64 a0_0, .int .i64 a0_1, .slice A0_2 l0_2.length c0_2] 43 (0, 0)) (Hlp.bp BK904.out) hb)
      replace HB := Aside0.mk (below_step (Hlp.bl HB.out) hb)
      (try clear hb)
      (try clear hb2)
      (try clear hk)
      (try clear hi)
      refine hK.out _ _ ⟨(blk_cell BK904.out 0).trans rfl, (blk_cell BK904.out 1).trans rfl, (blk_cell BK904.out 2).trans rfl⟩ (fun hHeld => ?_)
      clear hK K
      refine norm_ (a' := ?_) ?_ ?_
      rotate_left
      ·
       show Act.put _ (some 27) _ = _
       simp only [Act.put, List.setIfInBounds_toArray, List.set_cons_zero, List.set_cons_succ, i64_w, i32_w]
       rfl
      refine pure_ (i := 13) (N := some 28) (v := ?_) (a' := ?_) #[true, true, true, true, true, true, true, true, true, true, true, true, true, true, false, false, false, false] rfl rfl (any_of HT_.out (by kernel_rfl)) (fun _ _ _ h => h) (Or.inl ⟨by rfl, ?_⟩) ?_ ?_
      rotate_left
      ·
       intro w'
       go_simp
       with_reducible rfl
      rotate_left
      ·
       simp only [Act.put, List.setIfInBounds_toArray, List.set_cons_zero, List.set_cons_succ, i64_w, i32_w]
       rfl
      refine pure_ (i := 14) (N := some 29) (v := ?_) (a' := ?_) #[true, true, true, true, true, true, true, true, true, true, true, true, true, true, true, false, false, false] rfl rfl (any_of HT_.out (by kernel_rfl)) (fun _ _ _ h => h) (Or.inl ⟨by rfl, ?_⟩) ?_ ?_
      rotate_left
      ·
       intro w'
       go_simp
       with_reducible rfl
      rotate_left
      ·
       simp only [Act.put, List.setIfInBounds_toArray, List.set_cons_zero, List.set_cons_succ, i64_w, i32_w]
       rfl
      refine one_ (i := 15) (N := some 30) #[true, true, true, true, true, true, true, true, true, true, true, true, true, true, true, true, false, false] rfl rfl (one_of HT_.out (by kernel_rfl)) (by decide) (fun K hK => ?_)
      refine goes_ Try.func47 (by kernel_rfl) rfl #[] (by rfl) rfl rfl (by (try simp only [List.map_toArray, List.map_cons, List.map_nil]); first | done | rfl | (simp only [List.length_drop, List.length_take]; rfl)) ?_
      with_reducible refine (brokerlaw32_awake.calls kj2  t925 _ A21.out).mono ?_
      rintro e w32 ⟨rfl, hb⟩
      refine ⟨_, rfl, ?_⟩
      replace HO909 := Aside0.mk (Kd.R_below (Hlp.rp HO909.out) hb)
      replace HO912 := Aside0.mk (Kd.R_below (Hlp.rp HO912.out) hb)
      replace HO918 := Aside0.mk (Kd.R_below (Hlp.rp HO918.out) hb)
      replace HO923 := Aside0.mk (Kd.R_below (Hlp.rp HO923.out) hb)
      replace BK904 := Aside0.mk (blk_below (g := gb904) (o := .cells #[.int .i64 a0_0, .int .i64 a0_1, .slice A0_2 l0_2.length c0_2] 43 (0, 0)) (Hlp.bp BK904.out) hb)
      replace HB := Aside0.mk (below_step (Hlp.bl HB.out) hb)
      (try clear hb)
      (try clear hb2)
      (try clear hk)
      (try clear hi)
      refine hK.out _ _ ⟨(blk_cell BK904.out 0).trans rfl, (blk_cell BK904.out 1).trans rfl, (blk_cell BK904.out 2).trans rfl⟩ (fun hHeld => ?_)
      clear hK K
      refine norm_ (a' := ?_) ?_ ?_
      rotate_left
      ·
       show Act.put _ (some 30) _ = _
       simp only [Act.put, List.setIfInBounds_toArray, List.set_cons_zero, List.set_cons_succ, i64_w, i32_w]
       rfl
      refine pure_ (i := 16) (N := some 31) (v := ?_) (a' := ?_) #[true, true, true, true, true, true, true, true, true, true, true, true, true, true, true, true, true, false] rfl rfl (any_of HT_.out (by kernel_rfl)) (fun _ _ _ h => h) (Or.inl ⟨by rfl, ?_⟩) ?_ ?_
      rotate_left
      ·
       intro w'
       go_simp
       with_reducible rfl
      rotate_left
      ·
       simp only [Act.put, List.setIfInBounds_toArray, List.set_cons_zero, List.set_cons_succ, i64_w, i32_w]
       rfl
      refine pure_ (i := 17) (N := some 4) (v := ?_) (a' := ?_) #[true, true, true, true, true, true, true, true, true, true, true, true, true, true, true, true, true, true] rfl rfl (any_of HT_.out (by kernel_rfl)) (fun _ _ _ h => h) (Or.inl ⟨by rfl, ?_⟩) ?_ ?_
      rotate_left
      ·
       intro w'
       go_simp
       with_reducible rfl
      rotate_left
      ·
       simp only [Act.put, List.setIfInBounds_toArray, List.set_cons_zero, List.set_cons_succ, i64_w, i32_w]
       rfl
      refine done_ (done_of HT_.out (by kernel_rfl)) ?_
      try go_wp2
      go_ret
      exact ⟨by first | rfl | (simp [errW_none, errW_some] <;> rfl) | (simp [*, errW_none, errW_some] <;> rfl), Hlp.bl HB.out⟩
     ·
      replace c20 := Bool.eq_false_iff.mpr c20
      subst c20
      have H1 : (none) = some r := by rw [if_neg (show ¬ (false = true) by decide)] at H; exact H
      clear H
      have H := H1
      clear H1
      exact absurd H (by simp)
    ·
     replace c16 := Bool.eq_false_iff.mpr c16
     subst c16
     have H1 : (none) = some r := by rw [if_neg (show ¬ (false = true) by decide)] at H; exact H
     clear H
     have H := H1
     clear H1
     exact absurd H (by simp)

end Go.Proofs.Ytkkelbakadbbhaa.J
