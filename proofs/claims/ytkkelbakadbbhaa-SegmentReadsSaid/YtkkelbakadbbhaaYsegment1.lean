/- Lean functions that compute what the Go functions named below compute; each theorem '.calls': if its Lean function has an answer, the Go function returns it. -/
import Derived.Test.YtkkelbakadbbhaaYx0
import Derived.Test.YtkkelbakadbbhaaH
import Derived.Test.YtkkelbakadbbhaaYrecord2
import Derived.Test.YtkkelbakadbbhaaYsegment0
namespace Go.Proofs.Ytkkelbakadbbhaa.J
open Go.RowKit Go.Proofs.YtkkelbakadbbhaaW.PrintWords Go.Proofs.YtkkelbakadbbhaaW.PrintLast Go.Proofs.YtkkelbakadbbhaaW.PrintMore
attribute [local go_sem] max2_int min2_int max_two min_two max_three min_three max_four min_four   -- for this text's walks alone
set_option linter.unusedVariables false
set_option linter.unusedSimpArgs false

/-! ### segment_Truncate: function 57 -/
mutual
def segment_Truncate.l0 : Nat → Int → Int → Int → Int → Int → List Int → Option (Int × Int × List Int)
 | 0, _, _, _, _, _, _ => none
 | k + 1, x1, x5, x6, x767000, x767001, x767002 => if x6 < (x767002.length : Int) then (segment_Truncate.j1 k x1 x5 x6 (decide (x5 < x1)) x767000 x767001 x767002) else (segment_Truncate.j1 k x1 x5 x6 false x767000 x767001 x767002)
def segment_Truncate.j1 : Nat → Int → Int → Int → Bool → Int → Int → List Int → Option (Int × Int × List Int)
 | 0, _, _, _, _, _, _, _ => none
 | k + 1, x1, x5, x6, x21, x767000, x767001, x767002 => if x21 = true then ((record_Decode.f k x767002 x6).bind fun bt768 => (if bt768.2.2.2.2.2 = 0 then (segment_Truncate.l0 k x1 (wrap64 (x5 + 1)) bt768.2.2.2.2.1 x767000 x767001 x767002) else (if 0 ≤ x6 then (if x6 ≤ (x767002.length : Int) then ((segment_owned.f (x767002.take (x6 : Int).toNat) ([] : List Int)).bind fun t776 => (some (x767000, x5, t776))) else (none)) else (none)))) else (if 0 ≤ x6 then (if x6 ≤ (x767002.length : Int) then ((segment_owned.f (x767002.take (x6 : Int).toNat) ([] : List Int)).bind fun t780 => (some (x767000, x5, t780))) else (none)) else (none))
end
def segment_Truncate.f (k : Nat) (a0_0 : Int) (a0_1 : Int) (l0_2 : List Int) (a1 : Int) : Option (Int × Int × List Int) := segment_Truncate.l0 k a1 a0_0 0 a0_0 a0_1 l0_2
theorem segment_Truncate.mono_l : ∀ k, (∀ y0 y1 y2 y3 y4 y5, LeO (segment_Truncate.l0 k y0 y1 y2 y3 y4 y5) (segment_Truncate.l0 (k + 1) y0 y1 y2 y3 y4 y5)) ∧ (∀ y0 y1 y2 y3 y4 y5 y6, LeO (segment_Truncate.j1 k y0 y1 y2 y3 y4 y5 y6) (segment_Truncate.j1 (k + 1) y0 y1 y2 y3 y4 y5 y6))
 | 0 => ⟨fun _ _ _ _ _ _ r h => by simp [segment_Truncate.l0] at h, fun _ _ _ _ _ _ _ r h => by simp [segment_Truncate.j1] at h⟩
 | k + 1 => by
  obtain ⟨ih0, ih1⟩ := segment_Truncate.mono_l k
  refine ⟨?_, ?_⟩
  ·
   intro y0 y1 y2 y3 y4 y5
   unfold segment_Truncate.l0
   repeat' first
   | (with_reducible exact ih0 _ _ _ _ _ _)
   | (with_reducible exact ih1 _ _ _ _ _ _ _)
   | (with_reducible exact record_Decode.mono _ _ _)
   | (with_reducible exact LeO.refl _)
   | (with_reducible exact LeO.none _)
   | (with_reducible refine LeO.ite ?_ ?_)
   | (with_reducible refine LeO.bind ?_ (fun _ => ?_))
   | exact ih0 _ _ _ _ _ _
   | exact ih1 _ _ _ _ _ _ _
   | exact record_Decode.mono _ _ _
   | exact LeO.none _
   | refine LeO.ite ?_ ?_
   | refine LeO.bind ?_ (fun _ => ?_)
  ·
   intro y0 y1 y2 y3 y4 y5 y6
   unfold segment_Truncate.j1
   repeat' first
   | (with_reducible exact ih0 _ _ _ _ _ _)
   | (with_reducible exact ih1 _ _ _ _ _ _ _)
   | (with_reducible exact record_Decode.mono _ _ _)
   | (with_reducible exact LeO.refl _)
   | (with_reducible exact LeO.none _)
   | (with_reducible refine LeO.ite ?_ ?_)
   | (with_reducible refine LeO.bind ?_ (fun _ => ?_))
   | exact ih0 _ _ _ _ _ _
   | exact ih1 _ _ _ _ _ _ _
   | exact record_Decode.mono _ _ _
   | exact LeO.none _
   | refine LeO.ite ?_ ?_
   | refine LeO.bind ?_ (fun _ => ?_)
theorem segment_Truncate.mono : ∀ a0 a1 a2 a3 k, LeO (segment_Truncate.f k a0 a1 a2 a3) (segment_Truncate.f (k + 1) a0 a1 a2 a3) := by
 intro a0 a1 a2 a3 k
 obtain ⟨ih0, ih1⟩ := segment_Truncate.mono_l k
 unfold segment_Truncate.f
 repeat' first
  | (with_reducible exact ih0 _ _ _ _ _ _)
  | (with_reducible exact ih1 _ _ _ _ _ _ _)
  | (with_reducible exact record_Decode.mono _ _ _)
  | (with_reducible exact LeO.refl _)
  | (with_reducible exact LeO.none _)
  | (with_reducible refine LeO.ite ?_ ?_)
  | (with_reducible refine LeO.bind ?_ (fun _ => ?_))
  | exact ih0 _ _ _ _ _ _
  | exact ih1 _ _ _ _ _ _ _
  | exact record_Decode.mono _ _ _
  | exact LeO.none _
  | refine LeO.ite ?_ ?_
  | refine LeO.bind ?_ (fun _ => ?_)
def segment_Truncate.T7 : Bool × List (List Nat × List Nat) := (true, [([], []), ([0], [0]), ([], []), ([], []), ([3], [3]), ([], []), ([4, 5], [4, 5]), ([6], [6]), ([1, 2, 7], [1, 2, 7]), ([8, 7, 0, 1, 2, 3, 4, 5, 6, 7, 8], [8])])
def segment_Truncate.B7 : List Nat := [0, 1, 0, 0, 8, 0, 56, 120, 255, 511]
theorem segment_Truncate.tab7 : rtab .any (opsOf Try.f57 7) = segment_Truncate.T7 := by kernel_rfl
theorem segment_Truncate.bits7 : waitsOk segment_Truncate.T7.2 segment_Truncate.B7 = true := by kernel_rfl
set_option maxHeartbeats 8000000 in
set_option maxRecDepth 100000 in
theorem segment_Truncate.calls (k : Nat) (a0_0 : Int) (a0_1 : Int) (A0_2 : Option Addr) (c0_2 : Nat) (l0_2 : List Int) (a1 : Int) (r1 : Int) (r2 : Int) (r3 : List Int) (w : World) (hr0_2 : Kd.C (Kd.int .u8) w A0_2 l0_2.length l0_2) (hc0_2 : l0_2.length ≤ c0_2) (h : segment_Truncate.f k a0_0 a0_1 l0_2 a1 = some (r1, r2, r3)) :
 Calls Try.prog 57 #[.agg #[.int .i64 a0_0, .int .i64 a0_1, .slice A0_2 l0_2.length c0_2], .int .i64 a1] w fun e w' => ∃ v2_ : Value, e = .returned (.agg #[.int .i64 r1, .int .i64 r2, v2_]) ∧ Kd.R (Kd.int .u8) 5 w' w.heap.size (fun _ => True) v2_ r3 ∧ Below w.heap.size w w' := by
 have hu43 := Try.underlying43
 have hu23 := Try.underlying23
 have HR0_2 := Aside0.mk hr0_2
 have HC0_2 := Aside0.mk hc0_2
 clear hr0_2 hc0_2
 have HB := Aside0.mk (Below.refl w.heap.size w)
 have H : (segment_Truncate.l0 k a1 a0_0 0 a0_0 a0_1 l0_2) = some (r1, r2, r3) := h
 clear h
 have H' := Aside0.mk H
 clear H
 go_enter Try.func57, Try.ntmps57
 go_wp2_with (first | ((with_reducible refine gate_dst (N := 2) rfl ?_); refine Hlp.bx (N := 2) (cs := #[.int .i64 a0_0, .int .i64 a0_1, .slice A0_2 l0_2.length c0_2]) (t := 43) ?_; intro gb766 hg w3 hbox hb; have BK766 := Aside0.mk (hbox); have GW766 := Aside0.mk ((by rw [hg]; exact (below_size (Hlp.bl HB.out)) : w.heap.size ≤ gb766)); have GE766 := Aside0.mk ((by rw [hg]; exact (below_size (Hlp.bl HB.out)) : w.heap.size ≤ gb766)); replace HB := Aside0.mk (below_step (Hlp.bl HB.out) hb); clear hb hbox hg) | ((with_reducible refine gate_dst (N := 4) rfl ?_); refine Hlp.bx (N := 4) (cs := #[.int .i64 0, .int .i64 0, .slice none 0 0]) (t := 43) ?_; intro gb767 hg w4 hbox hb; have BK767 := Aside0.mk (hbox); have GW767 := Aside0.mk ((by rw [hg]; exact (below_size (Hlp.bl HB.out)) : w.heap.size ≤ gb767)); have GE767 := Aside0.mk ((by rw [hg]; exact (below_size (Hlp.bl HB.out)) : w.heap.size ≤ gb767)); replace HB := Aside0.mk (below_step (Hlp.bl HB.out) hb); have NB766_767 := Aside0.mk ((by rw [hg]; exact Nat.ne_of_lt (blk_lt (g := gb766) (o := .cells #[.int .i64 a0_0, .int .i64 a0_1, .slice A0_2 l0_2.length c0_2] 43 (0, 0)) (Hlp.bp BK766.out)) : gb766 ≠ gb767)); have NB767_766 := Aside0.mk ((by rw [hg]; exact Nat.ne_of_gt (blk_lt (g := gb766) (o := .cells #[.int .i64 a0_0, .int .i64 a0_1, .slice A0_2 l0_2.length c0_2] 43 (0, 0)) (Hlp.bp BK766.out)) : gb767 ≠ gb766)); replace BK766 := Aside0.mk (blk_below (g := gb766) (o := .cells #[.int .i64 a0_0, .int .i64 a0_1, .slice A0_2 l0_2.length c0_2] 43 (0, 0)) (Hlp.bp BK766.out) hb); clear hb hbox hg; have hnb5 := NB766_767.out; have hnc5 := NB767_766.out; have hcz6_0 : w4.cell? ⟨gb766, 0, none⟩ = some (.int .i64 a0_0) := (blk_cell BK766.out 0).trans rfl; have hcz6_1 : w4.cell? ⟨gb766, 1, none⟩ = some (.int .i64 a0_1) := (blk_cell BK766.out 1).trans rfl; have hcz6_2 : w4.cell? ⟨gb766, 2, none⟩ = some (.slice A0_2 l0_2.length c0_2) := (blk_cell BK766.out 2).trans rfl; have hfz6_0 := blk_frozen BK766.out 0; have hfz6_1 := blk_frozen BK766.out 1; have hfz6_2 := blk_frozen BK766.out 2))
 go_loopg [5, 6] k (fun kq v5 v6 w' => ∃ (x5_1 : Int) (x6_1 : Int), v5 = .int .i64 x5_1 ∧ v6 = .int .i64 x6_1 ∧ Aside0 (segment_Truncate.l0 kq a1 x5_1 x6_1 a0_0 a0_1 l0_2 = some (r1, r2, r3)) ∧ Aside0 (kq ≤ k) ∧ Aside0 (w'.heap[gb766]? = some (.cells #[.int .i64 a0_0, .int .i64 a0_1, (.slice A0_2 l0_2.length c0_2)] 43 (0, 0))) ∧ Aside0 (w'.heap[gb767]? = some (.cells #[.int .i64 0, .int .i64 0, (.slice none 0 0)] 43 (0, 0))) ∧ Aside0 (Below w.heap.size w w'))
 case atStart => exact ⟨(a0_0), (0), (by first | rfl | (simp; done) | (simp [*]; done)), (by first | rfl | (simp; done) | (simp [*]; done)), H', ⟨Nat.le_refl _⟩, ⟨by exact Hlp.bp BK766.out⟩, ⟨by exact Hlp.bp BK767.out⟩, ⟨Hlp.bl HB.out⟩⟩
 case round =>
  clear H'
  try clear p2
  try clear c5
  try clear hcz6_0
  try clear hcz6_1
  try clear hcz6_2
  try clear hfz6_0
  try clear hfz6_1
  try clear hfz6_2
  obtain ⟨x5_1, x6_1, rfl, rfl, HA, HK1, BK766, BK767, HB⟩ := hrel
  cases gk with
  | zero => exact absurd HA.out (by simp [segment_Truncate.l0])
  | succ k1 =>
   have H := HA.out
   clear HA
   simp only [segment_Truncate.l0] at H
   have HC7 := Aside0.mk H
   clear H
   go_upto_region 2 with (fail)
   go_cut [21] (fun v21 wc => ∃ (kq : Nat) (x21_6 : Bool), v21 = .bool x21_6 ∧ Aside0 (segment_Truncate.j1 kq a1 x5_1 x6_1 x21_6 a0_0 a0_1 l0_2 = some (r1, r2, r3)) ∧ Aside0 (kq ≤ k1) ∧ Aside0 (wc.heap[gb766]? = some (.cells #[.int .i64 a0_0, .int .i64 a0_1, (.slice A0_2 l0_2.length c0_2)] 43 (0, 0))) ∧ Aside0 (wc.heap[gb767]? = some (.cells #[.int .i64 0, .int .i64 0, (.slice none 0 0)] 43 (0, 0))) ∧ Aside0 (Below w.heap.size w wc))
   case first =>
    have H := HC7.out
    clear HC7
    by_cases c8 : x6_1 < (l0_2.length : Int)
    ·
     rw [if_pos c8] at H
     have c8b0 : decide (x6_1 < (l0_2.length : Int)) = true := decide_eq_true c8
     clear c8
     (first | rw [c8b0] | (simp only [i64_w, i32_w]; rw [c8b0]) | skip)
     have H' := Aside0.mk H
     clear H
     have hnb9 := NB766_767.out
     have hnc9 := NB767_766.out
     have hcz10_0 : wr.cell? ⟨gb766, 0, none⟩ = some (.int .i64 a0_0) := (blk_cell BK766.out 0).trans rfl
     have hcz10_1 : wr.cell? ⟨gb766, 1, none⟩ = some (.int .i64 a0_1) := (blk_cell BK766.out 1).trans rfl
     have hcz10_2 : wr.cell? ⟨gb766, 2, none⟩ = some (.slice A0_2 l0_2.length c0_2) := (blk_cell BK766.out 2).trans rfl
     have hfz10_0 := blk_frozen BK766.out 0
     have hfz10_1 := blk_frozen BK766.out 1
     have hfz10_2 := blk_frozen BK766.out 2
     go_wp2
     go_meet
     case rel => exact ⟨_, (decide (x5_1 < a1)), (by first | rfl | (simp; done) | (simp [*]; done)), H', ⟨by have := HK1.out; first | omega | exact Nat.le_refl _⟩, ⟨by exact Hlp.bp BK766.out⟩, ⟨by exact Hlp.bp BK767.out⟩, ⟨Hlp.bl HB.out⟩⟩
    ·
     rw [if_neg c8] at H
     have c8b0 : decide (x6_1 < (l0_2.length : Int)) = false := decide_eq_false c8
     clear c8
     (first | rw [c8b0] | (simp only [i64_w, i32_w]; rw [c8b0]) | skip)
     have H' := Aside0.mk H
     clear H
     have hnb11 := NB766_767.out
     have hnc11 := NB767_766.out
     have hcz12_0 : wr.cell? ⟨gb766, 0, none⟩ = some (.int .i64 a0_0) := (blk_cell BK766.out 0).trans rfl
     have hcz12_1 : wr.cell? ⟨gb766, 1, none⟩ = some (.int .i64 a0_1) := (blk_cell BK766.out 1).trans rfl
     have hcz12_2 : wr.cell? ⟨gb766, 2, none⟩ = some (.slice A0_2 l0_2.length c0_2) := (blk_cell BK766.out 2).trans rfl
     have hfz12_0 := blk_frozen BK766.out 0
     have hfz12_1 := blk_frozen BK766.out 1
     have hfz12_2 := blk_frozen BK766.out 2
     go_wp2
     go_meet
     case rel => exact ⟨_, (false), (by first | rfl | (simp; done) | (simp [*]; done)), H', ⟨by have := HK1.out; first | omega | exact Nat.le_refl _⟩, ⟨by exact Hlp.bp BK766.out⟩, ⟨by exact Hlp.bp BK767.out⟩, ⟨Hlp.bl HB.out⟩⟩
   case rest =>
    clear HC7
    try clear c1
    try clear p2
    try clear c5
    try clear c8
    try clear c8b0
    try clear c9
    try clear c11
    try clear hcz10_0
    try clear hcz10_1
    try clear hcz10_2
    try clear hcz12_0
    try clear hcz12_1
    try clear hcz12_2
    try clear hcz6_0
    try clear hcz6_1
    try clear hcz6_2
    try clear hfz10_0
    try clear hfz10_1
    try clear hfz10_2
    try clear hfz12_0
    try clear hfz12_1
    try clear hfz12_2
    try clear hfz6_0
    try clear hfz6_1
    try clear hfz6_2
    try clear p2
    obtain ⟨kq, x21_6, rfl, HA, HJ6, BK766, BK767, HB⟩ := hcut
    cases kq with
    | zero => exact absurd HA.out (by simp [segment_Truncate.j1])
    | succ kj6 =>
     have H := HA.out
     clear HA
     simp only [segment_Truncate.j1] at H
     by_cases c13 : x21_6 = true
     ·
      subst c13
      have H1 : ((record_Decode.f kj6 l0_2 x6_1).bind fun bt768 => (if bt768.2.2.2.2.2 = 0 then (segment_Truncate.l0 kj6 a1 (wrap64 (x5_1 + 1)) bt768.2.2.2.2.1 a0_0 a0_1 l0_2) else (if 0 ≤ x6_1 then (if x6_1 ≤ (l0_2.length : Int) then ((segment_owned.f (l0_2.take (x6_1 : Int).toNat) ([] : List Int)).bind fun t776 => (some (a0_0, x5_1, t776))) else (none)) else (none)))) = some (r1, r2, r3) := by rw [if_pos rfl] at H; exact H
      clear H
      have H := H1
      clear H1
      replace H := Option.bind_eq_some_iff.mp H
      obtain ⟨⟨t768, t769, t770, t771, t772, t773⟩, A140, H⟩ := H
      replace H : (if t773 = 0 then (segment_Truncate.l0 kj6 a1 (wrap64 (x5_1 + 1)) t772 a0_0 a0_1 l0_2) else (if 0 ≤ x6_1 then (if x6_1 ≤ (l0_2.length : Int) then ((segment_owned.f (l0_2.take (x6_1 : Int).toNat) ([] : List Int)).bind fun t776 => (some (a0_0, x5_1, t776))) else (none)) else (none))) = some (r1, r2, r3) := H
      have A14 := Aside0.mk A140
      clear A140
      by_cases c15 : t773 = 0
      ·
       rw [if_pos c15] at H
       have c15b0 : (t773 == 0) = true := beq_iff_eq.mpr c15
       have c15b1 : (t773 != 0) = false := bne_eq_false_iff_eq.mpr c15
       clear c15
       have H' := Aside0.mk H
       clear H
       have hnb16 := NB766_767.out
       have hnc16 := NB767_766.out
       have hcz17_0 : wc.cell? ⟨gb766, 0, none⟩ = some (.int .i64 a0_0) := (blk_cell BK766.out 0).trans rfl
       have hcz17_1 : wc.cell? ⟨gb766, 1, none⟩ = some (.int .i64 a0_1) := (blk_cell BK766.out 1).trans rfl
       have hcz17_2 : wc.cell? ⟨gb766, 2, none⟩ = some (.slice A0_2 l0_2.length c0_2) := (blk_cell BK766.out 2).trans rfl
       have hfz17_0 := blk_frozen BK766.out 0
       have hfz17_1 := blk_frozen BK766.out 1
       have hfz17_2 := blk_frozen BK766.out 2
       go_wp2_with (first | ((with_reducible refine gate_callee (f := 29) rfl ?_); refine Hlp.gl (some 26) Try.func29 #[.slice A0_2 l0_2.length c0_2, .int .i64 x6_1] ?_; (with_reducible refine (record_Decode.calls kj6 _ _ l0_2 x6_1 t768 t769 t770 t771 t772 t773 _ ?side1 ?side2 A14.out).mono ?_); (case side1 => exact Hlp.cp (Kd.C_below HR0_2.out HB.out)); (case side2 => exact HC0_2.out); rintro e w18 ⟨rfl, hb⟩; refine ⟨_, rfl, ?_⟩; replace BK766 := Aside0.mk (blk_below (g := gb766) (o := .cells #[.int .i64 a0_0, .int .i64 a0_1, .slice A0_2 l0_2.length c0_2] 43 (0, 0)) (Hlp.bp BK766.out) hb); replace BK767 := Aside0.mk (blk_below (g := gb767) (o := .cells #[.int .i64 0, .int .i64 0, .slice none 0 0] 43 (0, 0)) (Hlp.bp BK767.out) hb); replace HB := Aside0.mk (below_step (Hlp.bl HB.out) hb); (try clear hb); (try clear hb2); (try clear hk); (try clear hi)) | ((with_reducible refine gate_dst (N := 7) rfl ?_); refine Hlp.bx (N := 7) (cs := #[.int .i64 0, .int .i64 0, .string (⟨#[]⟩ : ByteArray), .string (⟨#[]⟩ : ByteArray)]) (t := 23) ?_; intro gb774 hg w19 hbox hb; have BK774 := Aside0.mk (hbox); have GW774 := Aside0.mk ((by rw [hg]; exact (below_size (Hlp.bl HB.out)) : w.heap.size ≤ gb774)); have GE774 := Aside0.mk ((by rw [hg]; exact (below_size (Hlp.bl HB.out)) : w.heap.size ≤ gb774)); replace HB := Aside0.mk (below_step (Hlp.bl HB.out) hb); have NB766_774 := Aside0.mk ((by rw [hg]; exact Nat.ne_of_lt (blk_lt (g := gb766) (o := .cells #[.int .i64 a0_0, .int .i64 a0_1, .slice A0_2 l0_2.length c0_2] 43 (0, 0)) (Hlp.bp BK766.out)) : gb766 ≠ gb774)); have NB774_766 := Aside0.mk ((by rw [hg]; exact Nat.ne_of_gt (blk_lt (g := gb766) (o := .cells #[.int .i64 a0_0, .int .i64 a0_1, .slice A0_2 l0_2.length c0_2] 43 (0, 0)) (Hlp.bp BK766.out)) : gb774 ≠ gb766)); replace BK766 := Aside0.mk (blk_below (g := gb766) (o := .cells #[.int .i64 a0_0, .int .i64 a0_1, .slice A0_2 l0_2.length c0_2] 43 (0, 0)) (Hlp.bp BK766.out) hb); have NB767_774 := Aside0.mk ((by rw [hg]; exact Nat.ne_of_lt (blk_lt (g := gb767) (o := .cells #[.int .i64 0, .int .i64 0, .slice none 0 0] 43 (0, 0)) (Hlp.bp BK767.out)) : gb767 ≠ gb774)); have NB774_767 := Aside0.mk ((by rw [hg]; exact Nat.ne_of_gt (blk_lt (g := gb767) (o := .cells #[.int .i64 0, .int .i64 0, .slice none 0 0] 43 (0, 0)) (Hlp.bp BK767.out)) : gb774 ≠ gb767)); replace BK767 := Aside0.mk (blk_below (g := gb767) (o := .cells #[.int .i64 0, .int .i64 0, .slice none 0 0] 43 (0, 0)) (Hlp.bp BK767.out) hb); clear hb hbox hg; have hnb20 := NB774_766.out; have hnc20 := NB766_774.out; have hnb21 := NB774_767.out; have hnc21 := NB767_774.out; have hcz22_0 : w19.cell? ⟨gb774, 0, none⟩ = some (.int .i64 0) := (blk_cell BK774.out 0).trans rfl; have hcz22_1 : w19.cell? ⟨gb774, 1, none⟩ = some (.int .i64 0) := (blk_cell BK774.out 1).trans rfl; have hcz22_2 : w19.cell? ⟨gb774, 2, none⟩ = some (.string (⟨#[]⟩ : ByteArray)) := (blk_cell BK774.out 2).trans rfl; have hcz22_3 : w19.cell? ⟨gb774, 3, none⟩ = some (.string (⟨#[]⟩ : ByteArray)) := (blk_cell BK774.out 3).trans rfl; have hfz22_0 := blk_frozen BK774.out 0; have hfz22_1 := blk_frozen BK774.out 1; have hfz22_2 := blk_frozen BK774.out 2; have hfz22_3 := blk_frozen BK774.out 3))
       go_roundg kj6
       case measure => have := HK1.out; have := HJ6.out; omega
       case rel => exact ⟨(wrap64 (x5_1 + 1)), (t772), (by first | rfl | (simp; done) | (simp [*]; done)), (by first | rfl | (simp; done) | (simp [*]; done)), H', ⟨by have := HK1.out; have := HJ6.out; omega⟩, ⟨by refine Hlp.bp (blk_far ?_ NB766_774.out _); refine Hlp.bp (blk_far ?_ NB766_774.out _); refine Hlp.bp (blk_far ?_ NB766_774.out _); refine Hlp.bp (blk_far ?_ NB766_774.out _); exact Hlp.bp BK766.out⟩, ⟨by refine Hlp.bp (blk_far ?_ NB767_774.out _); refine Hlp.bp (blk_far ?_ NB767_774.out _); refine Hlp.bp (blk_far ?_ NB767_774.out _); refine Hlp.bp (blk_far ?_ NB767_774.out _); exact Hlp.bp BK767.out⟩, ⟨Hlp.bl HB.out⟩⟩
      ·
       rw [if_neg c15] at H
       have c15b0 : (t773 == 0) = false := beq_eq_false_iff_ne.mpr c15
       have c15b1 : (t773 != 0) = true := bne_iff_ne.mpr c15
       by_cases c23 : 0 ≤ x6_1
       ·
        rw [if_pos c23] at H
        have c23b0 := eq_true c23
        have c23b1 : decide (0 ≤ x6_1) = true := decide_eq_true c23
        clear c23
        by_cases c24 : x6_1 ≤ (l0_2.length : Int)
        ·
         rw [if_pos c24] at H
         have c24b0 := eq_true c24
         have c24b1 : decide (x6_1 ≤ (l0_2.length : Int)) = true := decide_eq_true c24
         clear c24
         replace H := Option.bind_eq_some_iff.mp H
         obtain ⟨t776, A250, H⟩ := H
         replace H : (some (a0_0, x5_1, t776)) = some (r1, r2, r3) := H
         have A25 := Aside0.mk A250
         clear A250
         simp only [Option.some.injEq, Prod.mk.injEq] at H
         obtain ⟨rfl, rfl, rfl⟩ := H
         have hnb26 := NB766_767.out
         have hnc26 := NB767_766.out
         have hcz27_0 : wc.cell? ⟨gb766, 0, none⟩ = some (.int .i64 a0_0) := (blk_cell BK766.out 0).trans rfl
         have hcz27_1 : wc.cell? ⟨gb766, 1, none⟩ = some (.int .i64 a0_1) := (blk_cell BK766.out 1).trans rfl
         have hcz27_2 : wc.cell? ⟨gb766, 2, none⟩ = some (.slice A0_2 l0_2.length c0_2) := (blk_cell BK766.out 2).trans rfl
         have hfz27_0 := blk_frozen BK766.out 0
         have hfz27_1 := blk_frozen BK766.out 1
         have hfz27_2 := blk_frozen BK766.out 2
         try go_wp2_with (first | ((with_reducible refine gate_callee (f := 29) rfl ?_); refine Hlp.gl (some 26) Try.func29 #[.slice A0_2 l0_2.length c0_2, .int .i64 x6_1] ?_; (with_reducible refine (record_Decode.calls kj6 _ _ l0_2 x6_1 t768 t769 t770 t771 t772 t773 _ ?side1 ?side2 A14.out).mono ?_); (case side1 => exact Hlp.cp (Kd.C_below HR0_2.out HB.out)); (case side2 => exact HC0_2.out); rintro e w28 ⟨rfl, hb⟩; refine ⟨_, rfl, ?_⟩; replace BK766 := Aside0.mk (blk_below (g := gb766) (o := .cells #[.int .i64 a0_0, .int .i64 a0_1, .slice A0_2 l0_2.length c0_2] 43 (0, 0)) (Hlp.bp BK766.out) hb); replace BK767 := Aside0.mk (blk_below (g := gb767) (o := .cells #[.int .i64 0, .int .i64 0, .slice none 0 0] 43 (0, 0)) (Hlp.bp BK767.out) hb); replace HB := Aside0.mk (below_step (Hlp.bl HB.out) hb); (try clear hb); (try clear hb2); (try clear hk); (try clear hi)) | ((with_reducible refine gate_dst (N := 7) rfl ?_); refine Hlp.bx (N := 7) (cs := #[.int .i64 0, .int .i64 0, .string (⟨#[]⟩ : ByteArray), .string (⟨#[]⟩ : ByteArray)]) (t := 23) ?_; intro gb774 hg w29 hbox hb; have BK774 := Aside0.mk (hbox); have GW774 := Aside0.mk ((by rw [hg]; exact (below_size (Hlp.bl HB.out)) : w.heap.size ≤ gb774)); have GE774 := Aside0.mk ((by rw [hg]; exact (below_size (Hlp.bl HB.out)) : w.heap.size ≤ gb774)); replace HB := Aside0.mk (below_step (Hlp.bl HB.out) hb); have NB766_774 := Aside0.mk ((by rw [hg]; exact Nat.ne_of_lt (blk_lt (g := gb766) (o := .cells #[.int .i64 a0_0, .int .i64 a0_1, .slice A0_2 l0_2.length c0_2] 43 (0, 0)) (Hlp.bp BK766.out)) : gb766 ≠ gb774)); have NB774_766 := Aside0.mk ((by rw [hg]; exact Nat.ne_of_gt (blk_lt (g := gb766) (o := .cells #[.int .i64 a0_0, .int .i64 a0_1, .slice A0_2 l0_2.length c0_2] 43 (0, 0)) (Hlp.bp BK766.out)) : gb774 ≠ gb766)); replace BK766 := Aside0.mk (blk_below (g := gb766) (o := .cells #[.int .i64 a0_0, .int .i64 a0_1, .slice A0_2 l0_2.length c0_2] 43 (0, 0)) (Hlp.bp BK766.out) hb); have NB767_774 := Aside0.mk ((by rw [hg]; exact Nat.ne_of_lt (blk_lt (g := gb767) (o := .cells #[.int .i64 0, .int .i64 0, .slice none 0 0] 43 (0, 0)) (Hlp.bp BK767.out)) : gb767 ≠ gb774)); have NB774_767 := Aside0.mk ((by rw [hg]; exact Nat.ne_of_gt (blk_lt (g := gb767) (o := .cells #[.int .i64 0, .int .i64 0, .slice none 0 0] 43 (0, 0)) (Hlp.bp BK767.out)) : gb774 ≠ gb767)); replace BK767 := Aside0.mk (blk_below (g := gb767) (o := .cells #[.int .i64 0, .int .i64 0, .slice none 0 0] 43 (0, 0)) (Hlp.bp BK767.out) hb); clear hb hbox hg; have hnb30 := NB774_766.out; have hnc30 := NB766_774.out; have hnb31 := NB774_767.out; have hnc31 := NB767_774.out; have hcz32_0 : w29.cell? ⟨gb774, 0, none⟩ = some (.int .i64 0) := (blk_cell BK774.out 0).trans rfl; have hcz32_1 : w29.cell? ⟨gb774, 1, none⟩ = some (.int .i64 0) := (blk_cell BK774.out 1).trans rfl; have hcz32_2 : w29.cell? ⟨gb774, 2, none⟩ = some (.string (⟨#[]⟩ : ByteArray)) := (blk_cell BK774.out 2).trans rfl; have hcz32_3 : w29.cell? ⟨gb774, 3, none⟩ = some (.string (⟨#[]⟩ : ByteArray)) := (blk_cell BK774.out 3).trans rfl; have hfz32_0 := blk_frozen BK774.out 0; have hfz32_1 := blk_frozen BK774.out 1; have hfz32_2 := blk_frozen BK774.out 2; have hfz32_3 := blk_frozen BK774.out 3))
         have n0_ : Aside0 (((((w29.setCell ⟨gb774, 0, none⟩ (.int .i64 t768)).setCell ⟨gb774, 1, none⟩ (.int .i64 t769)).setCell ⟨gb774, 2, none⟩ (.string t770)).setCell ⟨gb774, 3, none⟩ (.string t771)).heap[gb766]? = some (.cells #[.int .i64 a0_0, .int .i64 a0_1, .slice A0_2 l0_2.length c0_2] 43 (0, 0))) := ⟨by refine Hlp.bp (blk_far ?_ NB766_774.out _); refine Hlp.bp (blk_far ?_ NB766_774.out _); refine Hlp.bp (blk_far ?_ NB766_774.out _); refine Hlp.bp (blk_far ?_ NB766_774.out _); exact Hlp.bp BK766.out⟩
         have n1_ : Aside0 (((((w29.setCell ⟨gb774, 0, none⟩ (.int .i64 t768)).setCell ⟨gb774, 1, none⟩ (.int .i64 t769)).setCell ⟨gb774, 2, none⟩ (.string t770)).setCell ⟨gb774, 3, none⟩ (.string t771)).heap[gb767]? = some (.cells #[.int .i64 0, .int .i64 0, .slice none 0 0] 43 (0, 0))) := ⟨by refine Hlp.bp (blk_far ?_ NB767_774.out _); refine Hlp.bp (blk_far ?_ NB767_774.out _); refine Hlp.bp (blk_far ?_ NB767_774.out _); refine Hlp.bp (blk_far ?_ NB767_774.out _); exact Hlp.bp BK767.out⟩
         have n2_ : Aside0 (((((w29.setCell ⟨gb774, 0, none⟩ (.int .i64 t768)).setCell ⟨gb774, 1, none⟩ (.int .i64 t769)).setCell ⟨gb774, 2, none⟩ (.string t770)).setCell ⟨gb774, 3, none⟩ (.string t771)).heap[gb774]? = some (.cells #[.int .i64 t768, .int .i64 t769, .string t770, .string t771] 23 (0, 0))) := ⟨by refine Hlp.bp (blk_put (cs := #[.int .i64 t768, .int .i64 t769, .string t770, .string (⟨#[]⟩ : ByteArray)]) ?_ 3 _ rfl); refine Hlp.bp (blk_put (cs := #[.int .i64 t768, .int .i64 t769, .string (⟨#[]⟩ : ByteArray), .string (⟨#[]⟩ : ByteArray)]) ?_ 2 _ rfl); refine Hlp.bp (blk_put (cs := #[.int .i64 t768, .int .i64 0, .string (⟨#[]⟩ : ByteArray), .string (⟨#[]⟩ : ByteArray)]) ?_ 1 _ rfl); refine Hlp.bp (blk_put (cs := #[.int .i64 0, .int .i64 0, .string (⟨#[]⟩ : ByteArray), .string (⟨#[]⟩ : ByteArray)]) ?_ 0 _ rfl); exact Hlp.bp BK774.out⟩
         have n3_ : Aside0 (Below w.heap.size w ((((w29.setCell ⟨gb774, 0, none⟩ (.int .i64 t768)).setCell ⟨gb774, 1, none⟩ (.int .i64 t769)).setCell ⟨gb774, 2, none⟩ (.string t770)).setCell ⟨gb774, 3, none⟩ (.string t771))) := ⟨Hlp.bl HB.out⟩
         (try clear BK766)
         (try clear BK767)
         (try clear BK774)
         (try clear HB)
         generalize ((((w29.setCell ⟨gb774, 0, none⟩ (.int .i64 t768)).setCell ⟨gb774, 1, none⟩ (.int .i64 t769)).setCell ⟨gb774, 2, none⟩ (.string t770)).setCell ⟨gb774, 3, none⟩ (.string t771)) = w33 at n0_ n1_ n2_ n3_ ⊢
         have BK766 := n0_
         have BK767 := n1_
         have BK774 := n2_
         have HB := n3_
         clear n0_ n1_ n2_ n3_
         replace BK766 := Aside0.mk (blk_drew BK766.out)
         replace BK767 := Aside0.mk (blk_drew BK767.out)
         replace BK774 := Aside0.mk (blk_drew BK774.out)
         replace HB := Aside0.mk (below_drew1 HB.out)
         obtain ⟨i035, hi035, _, hsz35, _⟩ := info_parts info5
         obtain ⟨hcut35, hA35, hC35⟩ := print_take_of (P := Try.prog) (Value.int .u8) 0 28 5 .i64 Try.underlying28 hi035 hsz35 A0_2 c0_2 l0_2 x6_1 (of_decide_eq_true (by first | (with_reducible assumption) | assumption)) (of_decide_eq_true (by first | (with_reducible assumption) | assumption)) HC0_2.out
         have HR775 := Aside0.mk (Kd.C_of_reads (h1 := fun _ => rfl) (hA35 _ (Kd.reads_of_C HR0_2.out)))
         have HC775 := Aside0.mk hC35
         clear hA35 hC35 hi035 hsz35
         refine start_ (n := 10) (S := fun w' => w'.cell? ⟨gb766, 0, none⟩ = some (.int .i64 a0_0) ∧ w'.cell? ⟨gb766, 1, none⟩ = some (.int .i64 a0_1) ∧ w'.cell? ⟨gb766, 2, none⟩ = some (.slice A0_2 l0_2.length c0_2)) (ds := []) #[false, false, false, false, false, false, false, false, false, false] (by kernel_rfl) rfl rfl ⟨(blk_cell BK766.out 0).trans rfl, (blk_cell BK766.out 1).trans rfl, (blk_cell BK766.out 2).trans rfl⟩ (fun hHeld => ?_); refine with_tabW segment_Truncate.tab7 segment_Truncate.bits7 (fun HT_ HW_ => ?_)
         generalize w33.drew = w34 at BK766 BK767 BK774 HB HR775 hHeld ⊢
         refine pure_ (i := 0) (N := some 35) (v := ?_) (a' := ?_) #[true, false, false, false, false, false, false, false, false, false] rfl rfl (any_of HT_.out (by kernel_rfl)) (fun _ _ _ h => h) (Or.inl ⟨by rfl, ?_⟩) ?_ ?_
         rotate_left
         ·
          intro w'
          go_simp
          with_reducible rfl
         rotate_left
         ·
          simp only [Act.put, List.setIfInBounds_toArray, List.set_cons_zero, List.set_cons_succ, i64_w, i32_w]
          rfl
         refine pure_ (i := 2) (N := some 37) (v := ?_) (a' := ?_) #[true, false, true, false, false, false, false, false, false, false] rfl rfl (any_of HT_.out (by kernel_rfl)) (fun _ _ _ h => h) (Or.inl ⟨by rfl, ?_⟩) ?_ ?_
         rotate_left
         ·
          intro w'
          go_simp
          with_reducible rfl
         rotate_left
         ·
          simp only [Act.put, List.setIfInBounds_toArray, List.set_cons_zero, List.set_cons_succ, i64_w, i32_w]
          rfl
         refine pure_ (i := 3) (N := some 38) (v := ?_) (a' := ?_) #[true, false, true, true, false, false, false, false, false, false] rfl rfl (any_of HT_.out (by kernel_rfl)) (fun _ _ _ h => h) (Or.inl ⟨by rfl, ?_⟩) ?_ ?_
         rotate_left
         ·
          intro w'
          go_simp
          with_reducible rfl
         rotate_left
         ·
          simp only [Act.put, List.setIfInBounds_toArray, List.set_cons_zero, List.set_cons_succ, i64_w, i32_w]
          rfl
         refine pure_ (i := 5) (N := some 40) (v := ?_) (a' := ?_) #[true, false, true, true, false, true, false, false, false, false] rfl rfl (any_of HT_.out (by kernel_rfl)) (fun _ _ _ h => h) (Or.inl ⟨by rfl, ?_⟩) ?_ ?_
         rotate_left
         ·
          intro w'
          go_simp
          with_reducible rfl
         rotate_left
         ·
          simp only [Act.put, List.setIfInBounds_toArray, List.set_cons_zero, List.set_cons_succ, i64_w, i32_w]
          rfl
         refine take_ (i := 1) (N := some 36) (v := ?_) (a' := ?_) #[true, true, true, true, false, true, false, false, false, false] rfl rfl (take_ofW HT_.out HW_.out (by kernel_rfl)) (fun _ _ _ h => h) (Or.inl ⟨by rfl, ?_⟩) hHeld ?_ ?_
         rotate_left
         ·
          rintro w' ⟨s0, s1, s2⟩
          go_simp
          with_reducible rfl
         rotate_left
         ·
          simp only [Act.put, List.setIfInBounds_toArray, List.set_cons_zero, List.set_cons_succ, i64_w, i32_w]
          rfl
         refine take_ (i := 4) (N := some 39) (v := ?_) (a' := ?_) #[true, true, true, true, true, true, false, false, false, false] rfl rfl (take_ofW HT_.out HW_.out (by kernel_rfl)) (fun _ _ _ h => h) (Or.inl ⟨by rfl, ?_⟩) hHeld ?_ ?_
         rotate_left
         ·
          rintro w' ⟨s0, s1, s2⟩
          go_simp
          with_reducible rfl
         rotate_left
         ·
          simp only [Act.put, List.setIfInBounds_toArray, List.set_cons_zero, List.set_cons_succ, i64_w, i32_w]
          rfl
         refine pure_ (i := 6) (N := some 41) (v := ?_) (a' := ?_) #[true, true, true, true, true, true, true, false, false, false] rfl rfl (any_of HT_.out (by kernel_rfl)) (fun _ _ _ h => h) (Or.inl ⟨by rfl, ?_⟩) ?_ ?_
         rotate_left
         ·
          intro w'
          go_simp
          with_reducible rfl
         rotate_left
         ·
          simp only [Act.put, List.setIfInBounds_toArray, List.set_cons_zero, List.set_cons_succ, i64_w, i32_w]
          rfl
         refine one_ (i := 7) (N := some 42) #[true, true, true, true, true, true, true, true, false, false] rfl rfl (one_of HT_.out (by kernel_rfl)) (by decide) (fun K hK => ?_)
         refine goes_ Try.func78 (by kernel_rfl) rfl #[.slice A0_2 (l0_2.take (x6_1 : Int).toNat).length c0_2, .slice none 0 0] (by rfl) rfl rfl (by (try simp only [List.map_toArray, List.map_cons, List.map_nil]); first | done | (rw [show (l0_2.take (x6_1 : Int).toNat).length = x6_1.toNat from (by rw [List.length_take]; have h_ : (x6_1 : Int) ≤ (l0_2.length : Int) := of_decide_eq_true (by first | (with_reducible assumption) | assumption); omega)] <;> rfl) | rfl | (simp only [List.length_drop, List.length_take]; rfl)) ?_
         refine (segment_owned.calls _ _ (l0_2.take (x6_1 : Int).toNat) _ _ ([] : List Int) t776 _ ?side1 ?side2 ?side3 ?side4 A25.out).mono ?_
         (case side1 => exact Hlp.cp (Kd.C_below HR775.out HB.out))
         (case side2 => exact HC775.out)
         (case side3 => exact Kd.C_nil _ _)
         (case side4 => exact Nat.le_refl _)
         rintro e w36 ⟨v777, rfl, ho0, hb⟩
         refine ⟨_, rfl, ?_⟩
         have HO778 := Aside0.mk (Kd.R_lower ho0 (below_size (Hlp.bl HB.out)))
         replace BK766 := Aside0.mk (blk_below (g := gb766) (o := .cells #[.int .i64 a0_0, .int .i64 a0_1, .slice A0_2 l0_2.length c0_2] 43 (0, 0)) (Hlp.bp BK766.out) hb)
         replace BK767 := Aside0.mk (blk_below (g := gb767) (o := .cells #[.int .i64 0, .int .i64 0, .slice none 0 0] 43 (0, 0)) (Hlp.bp BK767.out) hb)
         replace BK774 := Aside0.mk (blk_below (g := gb774) (o := .cells #[.int .i64 t768, .int .i64 t769, .string t770, .string t771] 23 (0, 0)) (Hlp.bp BK774.out) hb)
         replace HB := Aside0.mk (below_step (Hlp.bl HB.out) hb)
         (try clear hb)
         (try clear hb2)
         (try clear hk)
         (try clear hi)
         (try clear ho0)
         obtain ⟨Ao37, co37, eo37⟩ := Kd.R_slice HO778.out
         (first | subst eo37 | (injection eo37 with f1_ f2_ f3_; have f4_ := f1_.symm; have f5_ := f3_.symm; clear f1_ f2_ f3_; subst f4_; subst f5_))
         refine hK.out _ _ ⟨(blk_cell BK766.out 0).trans rfl, (blk_cell BK766.out 1).trans rfl, (blk_cell BK766.out 2).trans rfl⟩ (fun hHeld => ?_)
         clear hK K
         refine norm_ (a' := ?_) ?_ ?_
         rotate_left
         ·
          show Act.put _ (some 42) _ = _
          simp only [Act.put, List.setIfInBounds_toArray, List.set_cons_zero, List.set_cons_succ, i64_w, i32_w]
          rfl
         refine pure_ (i := 8) (N := some 43) (v := ?_) (a' := ?_) #[true, true, true, true, true, true, true, true, true, false] rfl rfl (any_of HT_.out (by kernel_rfl)) (fun _ _ _ h => h) (Or.inl ⟨by rfl, ?_⟩) ?_ ?_
         rotate_left
         ·
          intro w'
          go_simp
          with_reducible rfl
         rotate_left
         ·
          simp only [Act.put, List.setIfInBounds_toArray, List.set_cons_zero, List.set_cons_succ, i64_w, i32_w]
          rfl
         refine one_ (i := 9) (N := none) #[true, true, true, true, true, true, true, true, true, true] rfl rfl (one_of HT_.out (by kernel_rfl)) (by decide) (fun K hK => ?_)
         have hs38 : w36.cell? ⟨gb767, 0, none⟩ = some (.int .i64 0) := (blk_cell BK767.out 0).trans rfl
         have hfs38 := blk_frozen BK767.out 0
         have hns38_0 := NB766_767.out
         have hns38_2 := NB774_767.out
         have hms38_0 := NB767_766.out
         have hms38_2 := NB767_774.out
         have hs39 : w36.cell? ⟨gb767, 1, none⟩ = some (.int .i64 0) := (blk_cell BK767.out 1).trans rfl
         have hfs39 := blk_frozen BK767.out 1
         have hns39_0 := NB766_767.out
         have hns39_2 := NB774_767.out
         have hms39_0 := NB767_766.out
         have hms39_2 := NB767_774.out
         have hs40 : w36.cell? ⟨gb767, 2, none⟩ = some (.slice none 0 0) := (blk_cell BK767.out 2).trans rfl
         have hfs40 := blk_frozen BK767.out 2
         have hns40_0 := NB766_767.out
         have hns40_2 := NB774_767.out
         have hms40_0 := NB767_766.out
         have hms40_2 := NB767_774.out
         refine skip_ (w1 := ?_) (by rfl) rfl ?_ ?_
         rotate_left
         ·
          go_simp
          rfl
         refine hK.out _ _ ⟨((cell_far (p := ⟨gb767, _, none⟩) NB766_767.out _).trans (((cell_far (p := ⟨gb767, _, none⟩) NB766_767.out _).trans (((cell_far (p := ⟨gb767, _, none⟩) NB766_767.out _).trans (hHeld.1)))))), ((cell_far (p := ⟨gb767, _, none⟩) NB766_767.out _).trans (((cell_far (p := ⟨gb767, _, none⟩) NB766_767.out _).trans (((cell_far (p := ⟨gb767, _, none⟩) NB766_767.out _).trans (hHeld.2.1)))))), ((cell_far (p := ⟨gb767, _, none⟩) NB766_767.out _).trans (((cell_far (p := ⟨gb767, _, none⟩) NB766_767.out _).trans (((cell_far (p := ⟨gb767, _, none⟩) NB766_767.out _).trans (hHeld.2.2))))))⟩ (fun hHeld => ?_)
         clear hK K
         refine done_ (done_of HT_.out (by kernel_rfl)) ?_
         try go_wp2
         refine bodyPost_ret (results_cell_row rfl _ _ gb767 43 #[.int .i64 a0_0, .int .i64 x5_1, .slice Ao37 t776.length co37] (0, 0) _ rfl (by refine Hlp.bp (blk_put (cs := #[.int .i64 a0_0, .int .i64 x5_1, .slice none 0 0]) ?_ 2 _ rfl); refine Hlp.bp (blk_put (cs := #[.int .i64 a0_0, .int .i64 0, .slice none 0 0]) ?_ 1 _ rfl); refine Hlp.bp (blk_put (cs := #[.int .i64 0, .int .i64 0, .slice none 0 0]) ?_ 0 _ rfl); exact Hlp.bp BK767.out) Try.underlying43 rfl (by kernel_rfl)) rfl ?_
         exact ⟨_, by first | rfl | (simp [errW_none, errW_some] <;> rfl) | (simp [*, errW_none, errW_some] <;> rfl), by (with_reducible repeat (first | apply Kd.R_alloc | apply Kd.R_drewN | apply Kd.R_drew)); exact Kd.R_mono (Kd.R_far (p := ⟨gb767, 2, none⟩) (Kd.R_far (p := ⟨gb767, 1, none⟩) (Kd.R_far (p := ⟨gb767, 0, none⟩) (Kd.R_types HO778.out BK767.out (by decide)) (fun _ hk => hk.2) (.int .i64 a0_0)) (fun _ hk => hk.2) (.int .i64 x5_1)) (fun _ hk => hk.2) (.slice Ao37 t776.length co37)) (fun _ hk => trivial), Hlp.bl HB.out⟩
        ·
         rw [if_neg c24] at H
         exact absurd H (by simp)
       ·
        rw [if_neg c23] at H
        exact absurd H (by simp)
     ·
      replace c13 := Bool.eq_false_iff.mpr c13
      subst c13
      have H1 : (if 0 ≤ x6_1 then (if x6_1 ≤ (l0_2.length : Int) then ((segment_owned.f (l0_2.take (x6_1 : Int).toNat) ([] : List Int)).bind fun t780 => (some (a0_0, x5_1, t780))) else (none)) else (none)) = some (r1, r2, r3) := by rw [if_neg (show ¬ (false = true) by decide)] at H; exact H
      clear H
      have H := H1
      clear H1
      by_cases c41 : 0 ≤ x6_1
      ·
       rw [if_pos c41] at H
       have c41b0 := eq_true c41
       have c41b1 : decide (0 ≤ x6_1) = true := decide_eq_true c41
       clear c41
       by_cases c42 : x6_1 ≤ (l0_2.length : Int)
       ·
        rw [if_pos c42] at H
        have c42b0 := eq_true c42
        have c42b1 : decide (x6_1 ≤ (l0_2.length : Int)) = true := decide_eq_true c42
        clear c42
        replace H := Option.bind_eq_some_iff.mp H
        obtain ⟨t780, A430, H⟩ := H
        replace H : (some (a0_0, x5_1, t780)) = some (r1, r2, r3) := H
        have A43 := Aside0.mk A430
        clear A430
        simp only [Option.some.injEq, Prod.mk.injEq] at H
        obtain ⟨rfl, rfl, rfl⟩ := H
        try go_wp2
        replace BK766 := Aside0.mk (blk_drew BK766.out)
        replace BK767 := Aside0.mk (blk_drew BK767.out)
        replace HB := Aside0.mk (below_drew1 HB.out)
        obtain ⟨i045, hi045, _, hsz45, _⟩ := info_parts info5
        obtain ⟨hcut45, hA45, hC45⟩ := print_take_of (P := Try.prog) (Value.int .u8) 0 28 5 .i64 Try.underlying28 hi045 hsz45 A0_2 c0_2 l0_2 x6_1 (of_decide_eq_true (by first | (with_reducible assumption) | assumption)) (of_decide_eq_true (by first | (with_reducible assumption) | assumption)) HC0_2.out
        have HR779 := Aside0.mk (Kd.C_of_reads (h1 := fun _ => rfl) (hA45 _ (Kd.reads_of_C HR0_2.out)))
        have HC779 := Aside0.mk hC45
        clear hA45 hC45 hi045 hsz45
        refine start_ (n := 10) (S := fun w' => w'.cell? ⟨gb766, 0, none⟩ = some (.int .i64 a0_0) ∧ w'.cell? ⟨gb766, 1, none⟩ = some (.int .i64 a0_1) ∧ w'.cell? ⟨gb766, 2, none⟩ = some (.slice A0_2 l0_2.length c0_2)) (ds := []) #[false, false, false, false, false, false, false, false, false, false] (by kernel_rfl) rfl rfl ⟨(blk_cell BK766.out 0).trans rfl, (blk_cell BK766.out 1).trans rfl, (blk_cell BK766.out 2).trans rfl⟩ (fun hHeld => ?_); refine with_tabW segment_Truncate.tab7 segment_Truncate.bits7 (fun HT_ HW_ => ?_)
        generalize wc.drew = w44 at BK766 BK767 HB HR779 hHeld ⊢
        refine pure_ (i := 0) (N := some 35) (v := ?_) (a' := ?_) #[true, false, false, false, false, false, false, false, false, false] rfl rfl (any_of HT_.out (by kernel_rfl)) (fun _ _ _ h => h) (Or.inl ⟨by rfl, ?_⟩) ?_ ?_
        rotate_left
        ·
         intro w'
         go_simp
         with_reducible rfl
        rotate_left
        ·
         simp only [Act.put, List.setIfInBounds_toArray, List.set_cons_zero, List.set_cons_succ, i64_w, i32_w]
         rfl
        refine pure_ (i := 2) (N := some 37) (v := ?_) (a' := ?_) #[true, false, true, false, false, false, false, false, false, false] rfl rfl (any_of HT_.out (by kernel_rfl)) (fun _ _ _ h => h) (Or.inl ⟨by rfl, ?_⟩) ?_ ?_
        rotate_left
        ·
         intro w'
         go_simp
         with_reducible rfl
        rotate_left
        ·
         simp only [Act.put, List.setIfInBounds_toArray, List.set_cons_zero, List.set_cons_succ, i64_w, i32_w]
         rfl
        refine pure_ (i := 3) (N := some 38) (v := ?_) (a' := ?_) #[true, false, true, true, false, false, false, false, false, false] rfl rfl (any_of HT_.out (by kernel_rfl)) (fun _ _ _ h => h) (Or.inl ⟨by rfl, ?_⟩) ?_ ?_
        rotate_left
        ·
         intro w'
         go_simp
         with_reducible rfl
        rotate_left
        ·
         simp only [Act.put, List.setIfInBounds_toArray, List.set_cons_zero, List.set_cons_succ, i64_w, i32_w]
         rfl
        refine pure_ (i := 5) (N := some 40) (v := ?_) (a' := ?_) #[true, false, true, true, false, true, false, false, false, false] rfl rfl (any_of HT_.out (by kernel_rfl)) (fun _ _ _ h => h) (Or.inl ⟨by rfl, ?_⟩) ?_ ?_
        rotate_left
        ·
         intro w'
         go_simp
         with_reducible rfl
        rotate_left
        ·
         simp only [Act.put, List.setIfInBounds_toArray, List.set_cons_zero, List.set_cons_succ, i64_w, i32_w]
         rfl
        refine take_ (i := 1) (N := some 36) (v := ?_) (a' := ?_) #[true, true, true, true, false, true, false, false, false, false] rfl rfl (take_ofW HT_.out HW_.out (by kernel_rfl)) (fun _ _ _ h => h) (Or.inl ⟨by rfl, ?_⟩) hHeld ?_ ?_
        rotate_left
        ·
         rintro w' ⟨s0, s1, s2⟩
         go_simp
         with_reducible rfl
        rotate_left
        ·
         simp only [Act.put, List.setIfInBounds_toArray, List.set_cons_zero, List.set_cons_succ, i64_w, i32_w]
         rfl
        refine take_ (i := 4) (N := some 39) (v := ?_) (a' := ?_) #[true, true, true, true, true, true, false, false, false, false] rfl rfl (take_ofW HT_.out HW_.out (by kernel_rfl)) (fun _ _ _ h => h) (Or.inl ⟨by rfl, ?_⟩) hHeld ?_ ?_
        rotate_left
        ·
         rintro w' ⟨s0, s1, s2⟩
         go_simp
         with_reducible rfl
        rotate_left
        ·
         simp only [Act.put, List.setIfInBounds_toArray, List.set_cons_zero, List.set_cons_succ, i64_w, i32_w]
         rfl
        refine pure_ (i := 6) (N := some 41) (v := ?_) (a' := ?_) #[true, true, true, true, true, true, true, false, false, false] rfl rfl (any_of HT_.out (by kernel_rfl)) (fun _ _ _ h => h) (Or.inl ⟨by rfl, ?_⟩) ?_ ?_
        rotate_left
        ·
         intro w'
         go_simp
         with_reducible rfl
        rotate_left
        ·
         simp only [Act.put, List.setIfInBounds_toArray, List.set_cons_zero, List.set_cons_succ, i64_w, i32_w]
         rfl
        refine one_ (i := 7) (N := some 42) #[true, true, true, true, true, true, true, true, false, false] rfl rfl (one_of HT_.out (by kernel_rfl)) (by decide) (fun K hK => ?_)
        refine goes_ Try.func78 (by kernel_rfl) rfl #[.slice A0_2 (l0_2.take (x6_1 : Int).toNat).length c0_2, .slice none 0 0] (by rfl) rfl rfl (by (try simp only [List.map_toArray, List.map_cons, List.map_nil]); first | done | (rw [show (l0_2.take (x6_1 : Int).toNat).length = x6_1.toNat from (by rw [List.length_take]; have h_ : (x6_1 : Int) ≤ (l0_2.length : Int) := of_decide_eq_true (by first | (with_reducible assumption) | assumption); omega)] <;> rfl) | rfl | (simp only [List.length_drop, List.length_take]; rfl)) ?_
        refine (segment_owned.calls _ _ (l0_2.take (x6_1 : Int).toNat) _ _ ([] : List Int) t780 _ ?side1 ?side2 ?side3 ?side4 A43.out).mono ?_
        (case side1 => exact Hlp.cp (Kd.C_below HR779.out HB.out))
        (case side2 => exact HC779.out)
        (case side3 => exact Kd.C_nil _ _)
        (case side4 => exact Nat.le_refl _)
        rintro e w46 ⟨v781, rfl, ho0, hb⟩
        refine ⟨_, rfl, ?_⟩
        have HO782 := Aside0.mk (Kd.R_lower ho0 (below_size (Hlp.bl HB.out)))
        replace BK766 := Aside0.mk (blk_below (g := gb766) (o := .cells #[.int .i64 a0_0, .int .i64 a0_1, .slice A0_2 l0_2.length c0_2] 43 (0, 0)) (Hlp.bp BK766.out) hb)
        replace BK767 := Aside0.mk (blk_below (g := gb767) (o := .cells #[.int .i64 0, .int .i64 0, .slice none 0 0] 43 (0, 0)) (Hlp.bp BK767.out) hb)
        replace HB := Aside0.mk (below_step (Hlp.bl HB.out) hb)
        (try clear hb)
        (try clear hb2)
        (try clear hk)
        (try clear hi)
        (try clear ho0)
        obtain ⟨Ao47, co47, eo47⟩ := Kd.R_slice HO782.out
        (first | subst eo47 | (injection eo47 with f1_ f2_ f3_; have f4_ := f1_.symm; have f5_ := f3_.symm; clear f1_ f2_ f3_; subst f4_; subst f5_))
        refine hK.out _ _ ⟨(blk_cell BK766.out 0).trans rfl, (blk_cell BK766.out 1).trans rfl, (blk_cell BK766.out 2).trans rfl⟩ (fun hHeld => ?_)
        clear hK K
        refine norm_ (a' := ?_) ?_ ?_
        rotate_left
        ·
         show Act.put _ (some 42) _ = _
         simp only [Act.put, List.setIfInBounds_toArray, List.set_cons_zero, List.set_cons_succ, i64_w, i32_w]
         rfl
        refine pure_ (i := 8) (N := some 43) (v := ?_) (a' := ?_) #[true, true, true, true, true, true, true, true, true, false] rfl rfl (any_of HT_.out (by kernel_rfl)) (fun _ _ _ h => h) (Or.inl ⟨by rfl, ?_⟩) ?_ ?_
        rotate_left
        ·
         intro w'
         go_simp
         with_reducible rfl
        rotate_left
        ·
         simp only [Act.put, List.setIfInBounds_toArray, List.set_cons_zero, List.set_cons_succ, i64_w, i32_w]
         rfl
        refine one_ (i := 9) (N := none) #[true, true, true, true, true, true, true, true, true, true] rfl rfl (one_of HT_.out (by kernel_rfl)) (by decide) (fun K hK => ?_)
        have hs48 : w46.cell? ⟨gb767, 0, none⟩ = some (.int .i64 0) := (blk_cell BK767.out 0).trans rfl
        have hfs48 := blk_frozen BK767.out 0
        have hns48_0 := NB766_767.out
        have hms48_0 := NB767_766.out
        have hs49 : w46.cell? ⟨gb767, 1, none⟩ = some (.int .i64 0) := (blk_cell BK767.out 1).trans rfl
        have hfs49 := blk_frozen BK767.out 1
        have hns49_0 := NB766_767.out
        have hms49_0 := NB767_766.out
        have hs50 : w46.cell? ⟨gb767, 2, none⟩ = some (.slice none 0 0) := (blk_cell BK767.out 2).trans rfl
        have hfs50 := blk_frozen BK767.out 2
        have hns50_0 := NB766_767.out
        have hms50_0 := NB767_766.out
        refine skip_ (w1 := ?_) (by rfl) rfl ?_ ?_
        rotate_left
        ·
         go_simp
         rfl
        refine hK.out _ _ ⟨((cell_far (p := ⟨gb767, _, none⟩) NB766_767.out _).trans (((cell_far (p := ⟨gb767, _, none⟩) NB766_767.out _).trans (((cell_far (p := ⟨gb767, _, none⟩) NB766_767.out _).trans (hHeld.1)))))), ((cell_far (p := ⟨gb767, _, none⟩) NB766_767.out _).trans (((cell_far (p := ⟨gb767, _, none⟩) NB766_767.out _).trans (((cell_far (p := ⟨gb767, _, none⟩) NB766_767.out _).trans (hHeld.2.1)))))), ((cell_far (p := ⟨gb767, _, none⟩) NB766_767.out _).trans (((cell_far (p := ⟨gb767, _, none⟩) NB766_767.out _).trans (((cell_far (p := ⟨gb767, _, none⟩) NB766_767.out _).trans (hHeld.2.2))))))⟩ (fun hHeld => ?_)
        clear hK K
        refine done_ (done_of HT_.out (by kernel_rfl)) ?_
        try go_wp2
        refine bodyPost_ret (results_cell_row rfl _ _ gb767 43 #[.int .i64 a0_0, .int .i64 x5_1, .slice Ao47 t780.length co47] (0, 0) _ rfl (by refine Hlp.bp (blk_put (cs := #[.int .i64 a0_0, .int .i64 x5_1, .slice none 0 0]) ?_ 2 _ rfl); refine Hlp.bp (blk_put (cs := #[.int .i64 a0_0, .int .i64 0, .slice none 0 0]) ?_ 1 _ rfl); refine Hlp.bp (blk_put (cs := #[.int .i64 0, .int .i64 0, .slice none 0 0]) ?_ 0 _ rfl); exact Hlp.bp BK767.out) Try.underlying43 rfl (by kernel_rfl)) rfl ?_
        exact ⟨_, by first | rfl | (simp [errW_none, errW_some] <;> rfl) | (simp [*, errW_none, errW_some] <;> rfl), by (with_reducible repeat (first | apply Kd.R_alloc | apply Kd.R_drewN | apply Kd.R_drew)); exact Kd.R_mono (Kd.R_far (p := ⟨gb767, 2, none⟩) (Kd.R_far (p := ⟨gb767, 1, none⟩) (Kd.R_far (p := ⟨gb767, 0, none⟩) (Kd.R_types HO782.out BK767.out (by decide)) (fun _ hk => hk.2) (.int .i64 a0_0)) (fun _ hk => hk.2) (.int .i64 x5_1)) (fun _ hk => hk.2) (.slice Ao47 t780.length co47)) (fun _ hk => trivial), Hlp.bl HB.out⟩
       ·
        rw [if_neg c42] at H
        exact absurd H (by simp)
      ·
       rw [if_neg c41] at H
       exact absurd H (by simp)


/-! ### segment_Recover: function 59 -/
def segment_Recover.l0 : Nat → List Int → Int → Int → Int → Option (Int × Int × List Int × Int)
 | 0, _, _, _, _ => none
 | k + 1, x0, x1, x6, x7 => if x7 < (x0.length : Int) then ((record_Decode.f k x0 x7).bind fun bt784 => (if bt784.2.2.2.2.2 = 0 then (if bt784.1 = x6 then (if bt784.2.2.2.2.1 > 65536 then (if 0 ≤ x7 then (if x7 ≤ (x0.length : Int) then ((segment_owned.f (x0.take (x7 : Int).toNat) ([] : List Int)).bind fun t792 => (some (x1, x6, t792, x7))) else (none)) else (none)) else (segment_Recover.l0 k x0 x1 (wrap64 (x6 + 1)) bt784.2.2.2.2.1)) else (if 0 ≤ x7 then (if x7 ≤ (x0.length : Int) then ((segment_owned.f (x0.take (x7 : Int).toNat) ([] : List Int)).bind fun t796 => (some (x1, x6, t796, x7))) else (none)) else (none))) else (if 0 ≤ x7 then (if x7 ≤ (x0.length : Int) then ((segment_owned.f (x0.take (x7 : Int).toNat) ([] : List Int)).bind fun t800 => (some (x1, x6, t800, x7))) else (none)) else (none)))) else (if 0 ≤ x7 then (if x7 ≤ (x0.length : Int) then ((segment_owned.f (x0.take (x7 : Int).toNat) ([] : List Int)).bind fun t804 => (some (x1, x6, t804, x7))) else (none)) else (none))
def segment_Recover.f (k : Nat) (l0 : List Int) (a1 : Int) : Option (Int × Int × List Int × Int) := segment_Recover.l0 k l0 a1 a1 0
theorem segment_Recover.mono_l : ∀ k, (∀ y0 y1 y2 y3, LeO (segment_Recover.l0 k y0 y1 y2 y3) (segment_Recover.l0 (k + 1) y0 y1 y2 y3))
 | 0 => fun _ _ _ _ r h => by simp [segment_Recover.l0] at h
 | k + 1 => by
  have ih0 := segment_Recover.mono_l k
  ·
   intro y0 y1 y2 y3
   unfold segment_Recover.l0
   repeat' first
   | (with_reducible exact ih0 _ _ _ _)
   | (with_reducible exact record_Decode.mono _ _ _)
   | (with_reducible exact LeO.refl _)
   | (with_reducible exact LeO.none _)
   | (with_reducible refine LeO.ite ?_ ?_)
   | (with_reducible refine LeO.bind ?_ (fun _ => ?_))
   | exact ih0 _ _ _ _
   | exact record_Decode.mono _ _ _
   | exact LeO.none _
   | refine LeO.ite ?_ ?_
   | refine LeO.bind ?_ (fun _ => ?_)
theorem segment_Recover.mono : ∀ a0 a1 k, LeO (segment_Recover.f k a0 a1) (segment_Recover.f (k + 1) a0 a1) := by
 intro a0 a1 k
 have ih0 := segment_Recover.mono_l k
 unfold segment_Recover.f
 repeat' first
  | (with_reducible exact ih0 _ _ _ _)
  | (with_reducible exact record_Decode.mono _ _ _)
  | (with_reducible exact LeO.refl _)
  | (with_reducible exact LeO.none _)
  | (with_reducible refine LeO.ite ?_ ?_)
  | (with_reducible refine LeO.bind ?_ (fun _ => ?_))
  | exact ih0 _ _ _ _
  | exact record_Decode.mono _ _ _
  | exact LeO.none _
  | refine LeO.ite ?_ ?_
  | refine LeO.bind ?_ (fun _ => ?_)
set_option maxHeartbeats 8000000 in
set_option maxRecDepth 100000 in
theorem segment_Recover.calls (k : Nat) (A0 : Option Addr) (c0 : Nat) (l0 : List Int) (a1 : Int) (r1 : Int) (r2 : Int) (r3 : List Int) (r4 : Int) (w : World) (hr0 : Kd.C (Kd.int .u8) w A0 l0.length l0) (hc0 : l0.length ≤ c0) (h : segment_Recover.f k l0 a1 = some (r1, r2, r3, r4)) :
 Calls Try.prog 59 #[.slice A0 l0.length c0, .int .i64 a1] w fun e w' => ∃ v2_ : Value, e = .returned (.tuple #[.agg #[.int .i64 r1, .int .i64 r2, v2_], .int .i64 r4]) ∧ Kd.R (Kd.int .u8) 5 w' w.heap.size (fun _ => True) v2_ r3 ∧ Below w.heap.size w w' := by
 have hu43 := Try.underlying43
 have hu23 := Try.underlying23
 have HR0 := Aside0.mk hr0
 have HC0 := Aside0.mk hc0
 clear hr0 hc0
 have HB := Aside0.mk (Below.refl w.heap.size w)
 have H : (segment_Recover.l0 k l0 a1 a1 0) = some (r1, r2, r3, r4) := h
 clear h
 have H' := Aside0.mk H
 clear H
 go_enter Try.func59, Try.ntmps59
 go_wp2_with (first | ((with_reducible refine gate_dst (N := 4) rfl ?_); refine Hlp.bx (N := 4) (cs := #[.int .i64 0, .int .i64 0, .slice none 0 0]) (t := 43) ?_; intro gb783 hg w3 hbox hb; have BK783 := Aside0.mk (hbox); have GW783 := Aside0.mk ((by rw [hg]; exact (below_size (Hlp.bl HB.out)) : w.heap.size ≤ gb783)); have GE783 := Aside0.mk ((by rw [hg]; exact (below_size (Hlp.bl HB.out)) : w.heap.size ≤ gb783)); replace HB := Aside0.mk (below_step (Hlp.bl HB.out) hb); clear hb hbox hg))
 go_loopg [6, 7] k (fun kq v6 v7 w' => ∃ (x6_1 : Int) (x7_1 : Int), v6 = .int .i64 x6_1 ∧ v7 = .int .i64 x7_1 ∧ Aside0 (segment_Recover.l0 kq l0 a1 x6_1 x7_1 = some (r1, r2, r3, r4)) ∧ Aside0 (kq ≤ k) ∧ Aside0 (w'.heap[gb783]? = some (.cells #[.int .i64 0, .int .i64 0, (.slice none 0 0)] 43 (0, 0))) ∧ Aside0 (Below w.heap.size w w'))
 case atStart => exact ⟨(a1), (0), (by first | rfl | (simp; done) | (simp [*]; done)), (by first | rfl | (simp; done) | (simp [*]; done)), H', ⟨Nat.le_refl _⟩, ⟨by exact Hlp.bp BK783.out⟩, ⟨Hlp.bl HB.out⟩⟩
 case round =>
  clear H'
  try clear p2
  obtain ⟨x6_1, x7_1, rfl, rfl, HA, HK1, BK783, HB⟩ := hrel
  cases gk with
  | zero => exact absurd HA.out (by simp [segment_Recover.l0])
  | succ k1 =>
   have H := HA.out
   clear HA
   simp only [segment_Recover.l0] at H
   by_cases c4 : x7_1 < (l0.length : Int)
   ·
    rw [if_pos c4] at H
    have c4b0 : decide (x7_1 < (l0.length : Int)) = true := decide_eq_true c4
    clear c4
    replace H := Option.bind_eq_some_iff.mp H
    obtain ⟨⟨t784, t785, t786, t787, t788, t789⟩, A50, H⟩ := H
    replace H : (if t789 = 0 then (if t784 = x6_1 then (if t788 > 65536 then (if 0 ≤ x7_1 then (if x7_1 ≤ (l0.length : Int) then ((segment_owned.f (l0.take (x7_1 : Int).toNat) ([] : List Int)).bind fun t792 => (some (a1, x6_1, t792, x7_1))) else (none)) else (none)) else (segment_Recover.l0 k1 l0 a1 (wrap64 (x6_1 + 1)) t788)) else (if 0 ≤ x7_1 then (if x7_1 ≤ (l0.length : Int) then ((segment_owned.f (l0.take (x7_1 : Int).toNat) ([] : List Int)).bind fun t796 => (some (a1, x6_1, t796, x7_1))) else (none)) else (none))) else (if 0 ≤ x7_1 then (if x7_1 ≤ (l0.length : Int) then ((segment_owned.f (l0.take (x7_1 : Int).toNat) ([] : List Int)).bind fun t800 => (some (a1, x6_1, t800, x7_1))) else (none)) else (none))) = some (r1, r2, r3, r4) := H
    have A5 := Aside0.mk A50
    clear A50
    by_cases c6 : t789 = 0
    ·
     rw [if_pos c6] at H
     have c6b0 : (t789 == 0) = true := beq_iff_eq.mpr c6
     have c6b1 : (t789 != 0) = false := bne_eq_false_iff_eq.mpr c6
     clear c6
     by_cases c7 : t784 = x6_1
     ·
      rw [if_pos c7] at H
      have c7b0 : (t784 == x6_1) = true := beq_iff_eq.mpr c7
      have c7b1 : (t784 != x6_1) = false := bne_eq_false_iff_eq.mpr c7
      clear c7
      by_cases c8 : t788 > 65536
      ·
       rw [if_pos c8] at H
       have c8b0 : decide (65536 < t788) = true := decide_eq_true c8
       clear c8
       by_cases c9 : 0 ≤ x7_1
       ·
        rw [if_pos c9] at H
        have c9b0 := eq_true c9
        have c9b1 : decide (0 ≤ x7_1) = true := decide_eq_true c9
        clear c9
        by_cases c10 : x7_1 ≤ (l0.length : Int)
        ·
         rw [if_pos c10] at H
         have c10b0 := eq_true c10
         have c10b1 : decide (x7_1 ≤ (l0.length : Int)) = true := decide_eq_true c10
         clear c10
         replace H := Option.bind_eq_some_iff.mp H
         obtain ⟨t792, A110, H⟩ := H
         replace H : (some (a1, x6_1, t792, x7_1)) = some (r1, r2, r3, r4) := H
         have A11 := Aside0.mk A110
         clear A110
         simp only [Option.some.injEq, Prod.mk.injEq] at H
         obtain ⟨rfl, rfl, rfl, rfl⟩ := H
         go_wp2_with (first | ((with_reducible refine gate_callee (f := 29) rfl ?_); refine Hlp.gl (some 19) Try.func29 #[.slice A0 l0.length c0, .int .i64 x7_1] ?_; (with_reducible refine (record_Decode.calls k1 _ _ l0 x7_1 t784 t785 t786 t787 t788 t789 _ ?side1 ?side2 A5.out).mono ?_); (case side1 => exact Hlp.cp (Kd.C_below HR0.out HB.out)); (case side2 => exact HC0.out); rintro e w12 ⟨rfl, hb⟩; refine ⟨_, rfl, ?_⟩; replace BK783 := Aside0.mk (blk_below (g := gb783) (o := .cells #[.int .i64 0, .int .i64 0, .slice none 0 0] 43 (0, 0)) (Hlp.bp BK783.out) hb); replace HB := Aside0.mk (below_step (Hlp.bl HB.out) hb); (try clear hb); (try clear hb2); (try clear hk); (try clear hi)) | ((with_reducible refine gate_dst (N := 8) rfl ?_); refine Hlp.bx (N := 8) (cs := #[.int .i64 0, .int .i64 0, .string (⟨#[]⟩ : ByteArray), .string (⟨#[]⟩ : ByteArray)]) (t := 23) ?_; intro gb790 hg w13 hbox hb; have BK790 := Aside0.mk (hbox); have GW790 := Aside0.mk ((by rw [hg]; exact (below_size (Hlp.bl HB.out)) : w.heap.size ≤ gb790)); have GE790 := Aside0.mk ((by rw [hg]; exact (below_size (Hlp.bl HB.out)) : w.heap.size ≤ gb790)); replace HB := Aside0.mk (below_step (Hlp.bl HB.out) hb); have NB783_790 := Aside0.mk ((by rw [hg]; exact Nat.ne_of_lt (blk_lt (g := gb783) (o := .cells #[.int .i64 0, .int .i64 0, .slice none 0 0] 43 (0, 0)) (Hlp.bp BK783.out)) : gb783 ≠ gb790)); have NB790_783 := Aside0.mk ((by rw [hg]; exact Nat.ne_of_gt (blk_lt (g := gb783) (o := .cells #[.int .i64 0, .int .i64 0, .slice none 0 0] 43 (0, 0)) (Hlp.bp BK783.out)) : gb790 ≠ gb783)); replace BK783 := Aside0.mk (blk_below (g := gb783) (o := .cells #[.int .i64 0, .int .i64 0, .slice none 0 0] 43 (0, 0)) (Hlp.bp BK783.out) hb); clear hb hbox hg; have hnb14 := NB790_783.out; have hnc14 := NB783_790.out; have hcz15_0 : w13.cell? ⟨gb790, 0, none⟩ = some (.int .i64 0) := (blk_cell BK790.out 0).trans rfl; have hcz15_1 : w13.cell? ⟨gb790, 1, none⟩ = some (.int .i64 0) := (blk_cell BK790.out 1).trans rfl; have hcz15_2 : w13.cell? ⟨gb790, 2, none⟩ = some (.string (⟨#[]⟩ : ByteArray)) := (blk_cell BK790.out 2).trans rfl; have hcz15_3 : w13.cell? ⟨gb790, 3, none⟩ = some (.string (⟨#[]⟩ : ByteArray)) := (blk_cell BK790.out 3).trans rfl; have hfz15_0 := blk_frozen BK790.out 0; have hfz15_1 := blk_frozen BK790.out 1; have hfz15_2 := blk_frozen BK790.out 2; have hfz15_3 := blk_frozen BK790.out 3; obtain ⟨i016, hi016, _, hsz16, _⟩ := info_parts info5; obtain ⟨hcut16, hA16, hC16⟩ := print_take_of (P := Try.prog) (Value.int .u8) 0 28 5 .i64 Try.underlying28 hi016 hsz16 A0 c0 l0 x7_1 (of_decide_eq_true (by first | (with_reducible assumption) | assumption)) (of_decide_eq_true (by first | (with_reducible assumption) | assumption)) HC0.out; have HR791 := Aside0.mk (Kd.C_of_reads (h1 := fun _ => rfl) (hA16 _ (Kd.reads_of_C HR0.out))); have HC791 := Aside0.mk hC16; clear hA16 hC16 hi016 hsz16) | ((with_reducible refine gate_callee (f := 78) rfl ?_); refine goesL_ (some 43) rfl rfl Try.func78 (by kernel_rfl) rfl #[.slice A0 (l0.take (x7_1 : Int).toNat).length c0, .slice none 0 0] rfl (by (try simp only [List.map_toArray, List.map_cons, List.map_nil]); first | done | (rw [show (l0.take (x7_1 : Int).toNat).length = x7_1.toNat from (by rw [List.length_take]; have h_ : (x7_1 : Int) ≤ (l0.length : Int) := of_decide_eq_true (by first | (with_reducible assumption) | assumption); omega)] <;> rfl) | rfl | (simp only [List.length_drop, List.length_take]; rfl)) ?_; (refine (segment_owned.calls _ _ (l0.take (x7_1 : Int).toNat) _ _ ([] : List Int) t792 _ ?side1 ?side2 ?side3 ?side4 A11.out).mono ?_); (case side1 => exact Kd.C_below HR791.out (Hlp.bl HB.out)); (case side2 => exact HC791.out); (case side3 => exact Kd.C_nil _ _); (case side4 => exact Nat.le_refl _); rintro e w17 ⟨v793, rfl, ho0, hb⟩; refine ⟨_, rfl, ?_⟩; have HO794 := Aside0.mk (Kd.R_lower ho0 (below_size (Hlp.bl HB.out))); replace BK783 := Aside0.mk (blk_below (g := gb783) (o := .cells #[.int .i64 0, .int .i64 0, .slice none 0 0] 43 (0, 0)) (by refine Hlp.bp (blk_far ?_ NB783_790.out _); refine Hlp.bp (blk_far ?_ NB783_790.out _); refine Hlp.bp (blk_far ?_ NB783_790.out _); refine Hlp.bp (blk_far ?_ NB783_790.out _); exact Hlp.bp BK783.out) hb); replace BK790 := Aside0.mk (blk_below (g := gb790) (o := .cells #[.int .i64 t784, .int .i64 t785, .string t786, .string t787] 23 (0, 0)) (by refine Hlp.bp (blk_put (cs := #[.int .i64 t784, .int .i64 t785, .string t786, .string (⟨#[]⟩ : ByteArray)]) ?_ 3 _ rfl); refine Hlp.bp (blk_put (cs := #[.int .i64 t784, .int .i64 t785, .string (⟨#[]⟩ : ByteArray), .string (⟨#[]⟩ : ByteArray)]) ?_ 2 _ rfl); refine Hlp.bp (blk_put (cs := #[.int .i64 t784, .int .i64 0, .string (⟨#[]⟩ : ByteArray), .string (⟨#[]⟩ : ByteArray)]) ?_ 1 _ rfl); refine Hlp.bp (blk_put (cs := #[.int .i64 0, .int .i64 0, .string (⟨#[]⟩ : ByteArray), .string (⟨#[]⟩ : ByteArray)]) ?_ 0 _ rfl); exact Hlp.bp BK790.out) hb); replace HB := Aside0.mk (below_step (Hlp.bl HB.out) hb); (try clear hb); (try clear hb2); (try clear hk); (try clear hi); (try clear ho0); obtain ⟨Ao18, co18, eo18⟩ := Kd.R_slice HO794.out; subst eo18; have hcz19_0 : w17.cell? ⟨gb783, 0, none⟩ = some (.int .i64 0) := (blk_cell BK783.out 0).trans rfl; have hcz19_1 : w17.cell? ⟨gb783, 1, none⟩ = some (.int .i64 0) := (blk_cell BK783.out 1).trans rfl; have hcz19_2 : w17.cell? ⟨gb783, 2, none⟩ = some (.slice none 0 0) := (blk_cell BK783.out 2).trans rfl; have hfz19_0 := blk_frozen BK783.out 0; have hfz19_1 := blk_frozen BK783.out 1; have hfz19_2 := blk_frozen BK783.out 2))
         refine bodyPost_ret (results_ct rfl _ _ gb783 43 #[.int .i64 a1, .int .i64 x6_1, .slice Ao18 t792.length co18] (0, 0) _ rfl (by refine Hlp.bp (blk_put (cs := #[.int .i64 a1, .int .i64 x6_1, .slice none 0 0]) ?_ 2 _ rfl); refine Hlp.bp (blk_put (cs := #[.int .i64 a1, .int .i64 0, .slice none 0 0]) ?_ 1 _ rfl); refine Hlp.bp (blk_put (cs := #[.int .i64 0, .int .i64 0, .slice none 0 0]) ?_ 0 _ rfl); exact Hlp.bp BK783.out) Try.underlying43 rfl (by kernel_rfl)) rfl ?_
         exact ⟨_, by first | rfl | (simp [errW_none, errW_some] <;> rfl) | (simp [*, errW_none, errW_some] <;> rfl), by (with_reducible repeat (first | apply Kd.R_alloc | apply Kd.R_drewN | apply Kd.R_drew)); exact Kd.R_mono (Kd.R_far (p := ⟨gb783, 2, none⟩) (Kd.R_far (p := ⟨gb783, 1, none⟩) (Kd.R_far (p := ⟨gb783, 0, none⟩) (Kd.R_types HO794.out BK783.out (by decide)) (fun _ hk => hk.2) (.int .i64 a1)) (fun _ hk => hk.2) (.int .i64 x6_1)) (fun _ hk => hk.2) (.slice Ao18 t792.length co18)) (fun _ hk => trivial), Hlp.bl HB.out⟩
        ·
         rw [if_neg c10] at H
         exact absurd H (by simp)
       ·
        rw [if_neg c9] at H
        exact absurd H (by simp)
      ·
       rw [if_neg c8] at H
       have c8b0 : decide (65536 < t788) = false := decide_eq_false c8
       clear c8
       have H' := Aside0.mk H
       clear H
       go_wp2_with (first | ((with_reducible refine gate_callee (f := 29) rfl ?_); refine Hlp.gl (some 19) Try.func29 #[.slice A0 l0.length c0, .int .i64 x7_1] ?_; (with_reducible refine (record_Decode.calls k1 _ _ l0 x7_1 t784 t785 t786 t787 t788 t789 _ ?side1 ?side2 A5.out).mono ?_); (case side1 => exact Hlp.cp (Kd.C_below HR0.out HB.out)); (case side2 => exact HC0.out); rintro e w20 ⟨rfl, hb⟩; refine ⟨_, rfl, ?_⟩; replace BK783 := Aside0.mk (blk_below (g := gb783) (o := .cells #[.int .i64 0, .int .i64 0, .slice none 0 0] 43 (0, 0)) (Hlp.bp BK783.out) hb); replace HB := Aside0.mk (below_step (Hlp.bl HB.out) hb); (try clear hb); (try clear hb2); (try clear hk); (try clear hi)) | ((with_reducible refine gate_dst (N := 8) rfl ?_); refine Hlp.bx (N := 8) (cs := #[.int .i64 0, .int .i64 0, .string (⟨#[]⟩ : ByteArray), .string (⟨#[]⟩ : ByteArray)]) (t := 23) ?_; intro gb790 hg w21 hbox hb; have BK790 := Aside0.mk (hbox); have GW790 := Aside0.mk ((by rw [hg]; exact (below_size (Hlp.bl HB.out)) : w.heap.size ≤ gb790)); have GE790 := Aside0.mk ((by rw [hg]; exact (below_size (Hlp.bl HB.out)) : w.heap.size ≤ gb790)); replace HB := Aside0.mk (below_step (Hlp.bl HB.out) hb); have NB783_790 := Aside0.mk ((by rw [hg]; exact Nat.ne_of_lt (blk_lt (g := gb783) (o := .cells #[.int .i64 0, .int .i64 0, .slice none 0 0] 43 (0, 0)) (Hlp.bp BK783.out)) : gb783 ≠ gb790)); have NB790_783 := Aside0.mk ((by rw [hg]; exact Nat.ne_of_gt (blk_lt (g := gb783) (o := .cells #[.int .i64 0, .int .i64 0, .slice none 0 0] 43 (0, 0)) (Hlp.bp BK783.out)) : gb790 ≠ gb783)); replace BK783 := Aside0.mk (blk_below (g := gb783) (o := .cells #[.int .i64 0, .int .i64 0, .slice none 0 0] 43 (0, 0)) (Hlp.bp BK783.out) hb); clear hb hbox hg; have hnb22 := NB790_783.out; have hnc22 := NB783_790.out; have hcz23_0 : w21.cell? ⟨gb790, 0, none⟩ = some (.int .i64 0) := (blk_cell BK790.out 0).trans rfl; have hcz23_1 : w21.cell? ⟨gb790, 1, none⟩ = some (.int .i64 0) := (blk_cell BK790.out 1).trans rfl; have hcz23_2 : w21.cell? ⟨gb790, 2, none⟩ = some (.string (⟨#[]⟩ : ByteArray)) := (blk_cell BK790.out 2).trans rfl; have hcz23_3 : w21.cell? ⟨gb790, 3, none⟩ = some (.string (⟨#[]⟩ : ByteArray)) := (blk_cell BK790.out 3).trans rfl; have hfz23_0 := blk_frozen BK790.out 0; have hfz23_1 := blk_frozen BK790.out 1; have hfz23_2 := blk_frozen BK790.out 2; have hfz23_3 := blk_frozen BK790.out 3))
       go_roundg k1
       case measure => have := HK1.out; omega
       case rel => exact ⟨(wrap64 (x6_1 + 1)), (t788), (by first | rfl | (simp; done) | (simp [*]; done)), (by first | rfl | (simp; done) | (simp [*]; done)), H', ⟨by have := HK1.out; omega⟩, ⟨by refine Hlp.bp (blk_far ?_ NB783_790.out _); refine Hlp.bp (blk_far ?_ NB783_790.out _); refine Hlp.bp (blk_far ?_ NB783_790.out _); refine Hlp.bp (blk_far ?_ NB783_790.out _); exact Hlp.bp BK783.out⟩, ⟨Hlp.bl HB.out⟩⟩
     ·
      rw [if_neg c7] at H
      have c7b0 : (t784 == x6_1) = false := beq_eq_false_iff_ne.mpr c7
      have c7b1 : (t784 != x6_1) = true := bne_iff_ne.mpr c7
      by_cases c24 : 0 ≤ x7_1
      ·
       rw [if_pos c24] at H
       have c24b0 := eq_true c24
       have c24b1 : decide (0 ≤ x7_1) = true := decide_eq_true c24
       clear c24
       by_cases c25 : x7_1 ≤ (l0.length : Int)
       ·
        rw [if_pos c25] at H
        have c25b0 := eq_true c25
        have c25b1 : decide (x7_1 ≤ (l0.length : Int)) = true := decide_eq_true c25
        clear c25
        replace H := Option.bind_eq_some_iff.mp H
        obtain ⟨t796, A260, H⟩ := H
        replace H : (some (a1, x6_1, t796, x7_1)) = some (r1, r2, r3, r4) := H
        have A26 := Aside0.mk A260
        clear A260
        simp only [Option.some.injEq, Prod.mk.injEq] at H
        obtain ⟨rfl, rfl, rfl, rfl⟩ := H
        go_wp2_with (first | ((with_reducible refine gate_callee (f := 29) rfl ?_); refine Hlp.gl (some 19) Try.func29 #[.slice A0 l0.length c0, .int .i64 x7_1] ?_; (with_reducible refine (record_Decode.calls k1 _ _ l0 x7_1 t784 t785 t786 t787 t788 t789 _ ?side1 ?side2 A5.out).mono ?_); (case side1 => exact Hlp.cp (Kd.C_below HR0.out HB.out)); (case side2 => exact HC0.out); rintro e w27 ⟨rfl, hb⟩; refine ⟨_, rfl, ?_⟩; replace BK783 := Aside0.mk (blk_below (g := gb783) (o := .cells #[.int .i64 0, .int .i64 0, .slice none 0 0] 43 (0, 0)) (Hlp.bp BK783.out) hb); replace HB := Aside0.mk (below_step (Hlp.bl HB.out) hb); (try clear hb); (try clear hb2); (try clear hk); (try clear hi)) | ((with_reducible refine gate_dst (N := 8) rfl ?_); refine Hlp.bx (N := 8) (cs := #[.int .i64 0, .int .i64 0, .string (⟨#[]⟩ : ByteArray), .string (⟨#[]⟩ : ByteArray)]) (t := 23) ?_; intro gb790 hg w28 hbox hb; have BK790 := Aside0.mk (hbox); have GW790 := Aside0.mk ((by rw [hg]; exact (below_size (Hlp.bl HB.out)) : w.heap.size ≤ gb790)); have GE790 := Aside0.mk ((by rw [hg]; exact (below_size (Hlp.bl HB.out)) : w.heap.size ≤ gb790)); replace HB := Aside0.mk (below_step (Hlp.bl HB.out) hb); have NB783_790 := Aside0.mk ((by rw [hg]; exact Nat.ne_of_lt (blk_lt (g := gb783) (o := .cells #[.int .i64 0, .int .i64 0, .slice none 0 0] 43 (0, 0)) (Hlp.bp BK783.out)) : gb783 ≠ gb790)); have NB790_783 := Aside0.mk ((by rw [hg]; exact Nat.ne_of_gt (blk_lt (g := gb783) (o := .cells #[.int .i64 0, .int .i64 0, .slice none 0 0] 43 (0, 0)) (Hlp.bp BK783.out)) : gb790 ≠ gb783)); replace BK783 := Aside0.mk (blk_below (g := gb783) (o := .cells #[.int .i64 0, .int .i64 0, .slice none 0 0] 43 (0, 0)) (Hlp.bp BK783.out) hb); clear hb hbox hg; have hnb29 := NB790_783.out; have hnc29 := NB783_790.out; have hcz30_0 : w28.cell? ⟨gb790, 0, none⟩ = some (.int .i64 0) := (blk_cell BK790.out 0).trans rfl; have hcz30_1 : w28.cell? ⟨gb790, 1, none⟩ = some (.int .i64 0) := (blk_cell BK790.out 1).trans rfl; have hcz30_2 : w28.cell? ⟨gb790, 2, none⟩ = some (.string (⟨#[]⟩ : ByteArray)) := (blk_cell BK790.out 2).trans rfl; have hcz30_3 : w28.cell? ⟨gb790, 3, none⟩ = some (.string (⟨#[]⟩ : ByteArray)) := (blk_cell BK790.out 3).trans rfl; have hfz30_0 := blk_frozen BK790.out 0; have hfz30_1 := blk_frozen BK790.out 1; have hfz30_2 := blk_frozen BK790.out 2; have hfz30_3 := blk_frozen BK790.out 3; obtain ⟨i031, hi031, _, hsz31, _⟩ := info_parts info5; obtain ⟨hcut31, hA31, hC31⟩ := print_take_of (P := Try.prog) (Value.int .u8) 0 28 5 .i64 Try.underlying28 hi031 hsz31 A0 c0 l0 x7_1 (of_decide_eq_true (by first | (with_reducible assumption) | assumption)) (of_decide_eq_true (by first | (with_reducible assumption) | assumption)) HC0.out; have HR795 := Aside0.mk (Kd.C_of_reads (h1 := fun _ => rfl) (hA31 _ (Kd.reads_of_C HR0.out))); have HC795 := Aside0.mk hC31; clear hA31 hC31 hi031 hsz31) | ((with_reducible refine gate_callee (f := 78) rfl ?_); refine goesL_ (some 43) rfl rfl Try.func78 (by kernel_rfl) rfl #[.slice A0 (l0.take (x7_1 : Int).toNat).length c0, .slice none 0 0] rfl (by (try simp only [List.map_toArray, List.map_cons, List.map_nil]); first | done | (rw [show (l0.take (x7_1 : Int).toNat).length = x7_1.toNat from (by rw [List.length_take]; have h_ : (x7_1 : Int) ≤ (l0.length : Int) := of_decide_eq_true (by first | (with_reducible assumption) | assumption); omega)] <;> rfl) | rfl | (simp only [List.length_drop, List.length_take]; rfl)) ?_; (refine (segment_owned.calls _ _ (l0.take (x7_1 : Int).toNat) _ _ ([] : List Int) t796 _ ?side1 ?side2 ?side3 ?side4 A26.out).mono ?_); (case side1 => exact Kd.C_below HR795.out (Hlp.bl HB.out)); (case side2 => exact HC795.out); (case side3 => exact Kd.C_nil _ _); (case side4 => exact Nat.le_refl _); rintro e w32 ⟨v797, rfl, ho0, hb⟩; refine ⟨_, rfl, ?_⟩; have HO798 := Aside0.mk (Kd.R_lower ho0 (below_size (Hlp.bl HB.out))); replace BK783 := Aside0.mk (blk_below (g := gb783) (o := .cells #[.int .i64 0, .int .i64 0, .slice none 0 0] 43 (0, 0)) (by refine Hlp.bp (blk_far ?_ NB783_790.out _); refine Hlp.bp (blk_far ?_ NB783_790.out _); refine Hlp.bp (blk_far ?_ NB783_790.out _); refine Hlp.bp (blk_far ?_ NB783_790.out _); exact Hlp.bp BK783.out) hb); replace BK790 := Aside0.mk (blk_below (g := gb790) (o := .cells #[.int .i64 t784, .int .i64 t785, .string t786, .string t787] 23 (0, 0)) (by refine Hlp.bp (blk_put (cs := #[.int .i64 t784, .int .i64 t785, .string t786, .string (⟨#[]⟩ : ByteArray)]) ?_ 3 _ rfl); refine Hlp.bp (blk_put (cs := #[.int .i64 t784, .int .i64 t785, .string (⟨#[]⟩ : ByteArray), .string (⟨#[]⟩ : ByteArray)]) ?_ 2 _ rfl); refine Hlp.bp (blk_put (cs := #[.int .i64 t784, .int .i64 0, .string (⟨#[]⟩ : ByteArray), .string (⟨#[]⟩ : ByteArray)]) ?_ 1 _ rfl); refine Hlp.bp (blk_put (cs := #[.int .i64 0, .int .i64 0, .string (⟨#[]⟩ : ByteArray), .string (⟨#[]⟩ : ByteArray)]) ?_ 0 _ rfl); exact Hlp.bp BK790.out) hb); replace HB := Aside0.mk (below_step (Hlp.bl HB.out) hb); (try clear hb); (try clear hb2); (try clear hk); (try clear hi); (try clear ho0); obtain ⟨Ao33, co33, eo33⟩ := Kd.R_slice HO798.out; subst eo33; have hcz34_0 : w32.cell? ⟨gb783, 0, none⟩ = some (.int .i64 0) := (blk_cell BK783.out 0).trans rfl; have hcz34_1 : w32.cell? ⟨gb783, 1, none⟩ = some (.int .i64 0) := (blk_cell BK783.out 1).trans rfl; have hcz34_2 : w32.cell? ⟨gb783, 2, none⟩ = some (.slice none 0 0) := (blk_cell BK783.out 2).trans rfl; have hfz34_0 := blk_frozen BK783.out 0; have hfz34_1 := blk_frozen BK783.out 1; have hfz34_2 := blk_frozen BK783.out 2))
        refine bodyPost_ret (results_ct rfl _ _ gb783 43 #[.int .i64 a1, .int .i64 x6_1, .slice Ao33 t796.length co33] (0, 0) _ rfl (by refine Hlp.bp (blk_put (cs := #[.int .i64 a1, .int .i64 x6_1, .slice none 0 0]) ?_ 2 _ rfl); refine Hlp.bp (blk_put (cs := #[.int .i64 a1, .int .i64 0, .slice none 0 0]) ?_ 1 _ rfl); refine Hlp.bp (blk_put (cs := #[.int .i64 0, .int .i64 0, .slice none 0 0]) ?_ 0 _ rfl); exact Hlp.bp BK783.out) Try.underlying43 rfl (by kernel_rfl)) rfl ?_
        exact ⟨_, by first | rfl | (simp [errW_none, errW_some] <;> rfl) | (simp [*, errW_none, errW_some] <;> rfl), by (with_reducible repeat (first | apply Kd.R_alloc | apply Kd.R_drewN | apply Kd.R_drew)); exact Kd.R_mono (Kd.R_far (p := ⟨gb783, 2, none⟩) (Kd.R_far (p := ⟨gb783, 1, none⟩) (Kd.R_far (p := ⟨gb783, 0, none⟩) (Kd.R_types HO798.out BK783.out (by decide)) (fun _ hk => hk.2) (.int .i64 a1)) (fun _ hk => hk.2) (.int .i64 x6_1)) (fun _ hk => hk.2) (.slice Ao33 t796.length co33)) (fun _ hk => trivial), Hlp.bl HB.out⟩
       ·
        rw [if_neg c25] at H
        exact absurd H (by simp)
      ·
       rw [if_neg c24] at H
       exact absurd H (by simp)
    ·
     rw [if_neg c6] at H
     have c6b0 : (t789 == 0) = false := beq_eq_false_iff_ne.mpr c6
     have c6b1 : (t789 != 0) = true := bne_iff_ne.mpr c6
     by_cases c35 : 0 ≤ x7_1
     ·
      rw [if_pos c35] at H
      have c35b0 := eq_true c35
      have c35b1 : decide (0 ≤ x7_1) = true := decide_eq_true c35
      clear c35
      by_cases c36 : x7_1 ≤ (l0.length : Int)
      ·
       rw [if_pos c36] at H
       have c36b0 := eq_true c36
       have c36b1 : decide (x7_1 ≤ (l0.length : Int)) = true := decide_eq_true c36
       clear c36
       replace H := Option.bind_eq_some_iff.mp H
       obtain ⟨t800, A370, H⟩ := H
       replace H : (some (a1, x6_1, t800, x7_1)) = some (r1, r2, r3, r4) := H
       have A37 := Aside0.mk A370
       clear A370
       simp only [Option.some.injEq, Prod.mk.injEq] at H
       obtain ⟨rfl, rfl, rfl, rfl⟩ := H
       go_wp2_with (first | ((with_reducible refine gate_callee (f := 29) rfl ?_); refine Hlp.gl (some 19) Try.func29 #[.slice A0 l0.length c0, .int .i64 x7_1] ?_; (with_reducible refine (record_Decode.calls k1 _ _ l0 x7_1 t784 t785 t786 t787 t788 t789 _ ?side1 ?side2 A5.out).mono ?_); (case side1 => exact Hlp.cp (Kd.C_below HR0.out HB.out)); (case side2 => exact HC0.out); rintro e w38 ⟨rfl, hb⟩; refine ⟨_, rfl, ?_⟩; replace BK783 := Aside0.mk (blk_below (g := gb783) (o := .cells #[.int .i64 0, .int .i64 0, .slice none 0 0] 43 (0, 0)) (Hlp.bp BK783.out) hb); replace HB := Aside0.mk (below_step (Hlp.bl HB.out) hb); (try clear hb); (try clear hb2); (try clear hk); (try clear hi)) | ((with_reducible refine gate_dst (N := 8) rfl ?_); refine Hlp.bx (N := 8) (cs := #[.int .i64 0, .int .i64 0, .string (⟨#[]⟩ : ByteArray), .string (⟨#[]⟩ : ByteArray)]) (t := 23) ?_; intro gb790 hg w39 hbox hb; have BK790 := Aside0.mk (hbox); have GW790 := Aside0.mk ((by rw [hg]; exact (below_size (Hlp.bl HB.out)) : w.heap.size ≤ gb790)); have GE790 := Aside0.mk ((by rw [hg]; exact (below_size (Hlp.bl HB.out)) : w.heap.size ≤ gb790)); replace HB := Aside0.mk (below_step (Hlp.bl HB.out) hb); have NB783_790 := Aside0.mk ((by rw [hg]; exact Nat.ne_of_lt (blk_lt (g := gb783) (o := .cells #[.int .i64 0, .int .i64 0, .slice none 0 0] 43 (0, 0)) (Hlp.bp BK783.out)) : gb783 ≠ gb790)); have NB790_783 := Aside0.mk ((by rw [hg]; exact Nat.ne_of_gt (blk_lt (g := gb783) (o := .cells #[.int .i64 0, .int .i64 0, .slice none 0 0] 43 (0, 0)) (Hlp.bp BK783.out)) : gb790 ≠ gb783)); replace BK783 := Aside0.mk (blk_below (g := gb783) (o := .cells #[.int .i64 0, .int .i64 0, .slice none 0 0] 43 (0, 0)) (Hlp.bp BK783.out) hb); clear hb hbox hg; have hnb40 := NB790_783.out; have hnc40 := NB783_790.out; have hcz41_0 : w39.cell? ⟨gb790, 0, none⟩ = some (.int .i64 0) := (blk_cell BK790.out 0).trans rfl; have hcz41_1 : w39.cell? ⟨gb790, 1, none⟩ = some (.int .i64 0) := (blk_cell BK790.out 1).trans rfl; have hcz41_2 : w39.cell? ⟨gb790, 2, none⟩ = some (.string (⟨#[]⟩ : ByteArray)) := (blk_cell BK790.out 2).trans rfl; have hcz41_3 : w39.cell? ⟨gb790, 3, none⟩ = some (.string (⟨#[]⟩ : ByteArray)) := (blk_cell BK790.out 3).trans rfl; have hfz41_0 := blk_frozen BK790.out 0; have hfz41_1 := blk_frozen BK790.out 1; have hfz41_2 := blk_frozen BK790.out 2; have hfz41_3 := blk_frozen BK790.out 3; obtain ⟨i042, hi042, _, hsz42, _⟩ := info_parts info5; obtain ⟨hcut42, hA42, hC42⟩ := print_take_of (P := Try.prog) (Value.int .u8) 0 28 5 .i64 Try.underlying28 hi042 hsz42 A0 c0 l0 x7_1 (of_decide_eq_true (by first | (with_reducible assumption) | assumption)) (of_decide_eq_true (by first | (with_reducible assumption) | assumption)) HC0.out; have HR799 := Aside0.mk (Kd.C_of_reads (h1 := fun _ => rfl) (hA42 _ (Kd.reads_of_C HR0.out))); have HC799 := Aside0.mk hC42; clear hA42 hC42 hi042 hsz42) | ((with_reducible refine gate_callee (f := 78) rfl ?_); refine goesL_ (some 43) rfl rfl Try.func78 (by kernel_rfl) rfl #[.slice A0 (l0.take (x7_1 : Int).toNat).length c0, .slice none 0 0] rfl (by (try simp only [List.map_toArray, List.map_cons, List.map_nil]); first | done | (rw [show (l0.take (x7_1 : Int).toNat).length = x7_1.toNat from (by rw [List.length_take]; have h_ : (x7_1 : Int) ≤ (l0.length : Int) := of_decide_eq_true (by first | (with_reducible assumption) | assumption); omega)] <;> rfl) | rfl | (simp only [List.length_drop, List.length_take]; rfl)) ?_; (refine (segment_owned.calls _ _ (l0.take (x7_1 : Int).toNat) _ _ ([] : List Int) t800 _ ?side1 ?side2 ?side3 ?side4 A37.out).mono ?_); (case side1 => exact Kd.C_below HR799.out (Hlp.bl HB.out)); (case side2 => exact HC799.out); (case side3 => exact Kd.C_nil _ _); (case side4 => exact Nat.le_refl _); rintro e w43 ⟨v801, rfl, ho0, hb⟩; refine ⟨_, rfl, ?_⟩; have HO802 := Aside0.mk (Kd.R_lower ho0 (below_size (Hlp.bl HB.out))); replace BK783 := Aside0.mk (blk_below (g := gb783) (o := .cells #[.int .i64 0, .int .i64 0, .slice none 0 0] 43 (0, 0)) (by refine Hlp.bp (blk_far ?_ NB783_790.out _); refine Hlp.bp (blk_far ?_ NB783_790.out _); refine Hlp.bp (blk_far ?_ NB783_790.out _); refine Hlp.bp (blk_far ?_ NB783_790.out _); exact Hlp.bp BK783.out) hb); replace BK790 := Aside0.mk (blk_below (g := gb790) (o := .cells #[.int .i64 t784, .int .i64 t785, .string t786, .string t787] 23 (0, 0)) (by refine Hlp.bp (blk_put (cs := #[.int .i64 t784, .int .i64 t785, .string t786, .string (⟨#[]⟩ : ByteArray)]) ?_ 3 _ rfl); refine Hlp.bp (blk_put (cs := #[.int .i64 t784, .int .i64 t785, .string (⟨#[]⟩ : ByteArray), .string (⟨#[]⟩ : ByteArray)]) ?_ 2 _ rfl); refine Hlp.bp (blk_put (cs := #[.int .i64 t784, .int .i64 0, .string (⟨#[]⟩ : ByteArray), .string (⟨#[]⟩ : ByteArray)]) ?_ 1 _ rfl); refine Hlp.bp (blk_put (cs := #[.int .i64 0, .int .i64 0, .string (⟨#[]⟩ : ByteArray), .string (⟨#[]⟩ : ByteArray)]) ?_ 0 _ rfl); exact Hlp.bp BK790.out) hb); replace HB := Aside0.mk (below_step (Hlp.bl HB.out) hb); (try clear hb); (try clear hb2); (try clear hk); (try clear hi); (try clear ho0); obtain ⟨Ao44, co44, eo44⟩ := Kd.R_slice HO802.out; subst eo44; have hcz45_0 : w43.cell? ⟨gb783, 0, none⟩ = some (.int .i64 0) := (blk_cell BK783.out 0).trans rfl; have hcz45_1 : w43.cell? ⟨gb783, 1, none⟩ = some (.int .i64 0) := (blk_cell BK783.out 1).trans rfl; have hcz45_2 : w43.cell? ⟨gb783, 2, none⟩ = some (.slice none 0 0) := (blk_cell BK783.out 2).trans rfl; have hfz45_0 := blk_frozen BK783.out 0; have hfz45_1 := blk_frozen BK783.out 1; have hfz45_2 := blk_frozen BK783.out 2))
       refine bodyPost_ret (results_ct rfl _ _ gb783 43 #[.int .i64 a1, .int .i64 x6_1, .slice Ao44 t800.length co44] (0, 0) _ rfl (by refine Hlp.bp (blk_put (cs := #[.int .i64 a1, .int .i64 x6_1, .slice none 0 0]) ?_ 2 _ rfl); refine Hlp.bp (blk_put (cs := #[.int .i64 a1, .int .i64 0, .slice none 0 0]) ?_ 1 _ rfl); refine Hlp.bp (blk_put (cs := #[.int .i64 0, .int .i64 0, .slice none 0 0]) ?_ 0 _ rfl); exact Hlp.bp BK783.out) Try.underlying43 rfl (by kernel_rfl)) rfl ?_
       exact ⟨_, by first | rfl | (simp [errW_none, errW_some] <;> rfl) | (simp [*, errW_none, errW_some] <;> rfl), by (with_reducible repeat (first | apply Kd.R_alloc | apply Kd.R_drewN | apply Kd.R_drew)); exact Kd.R_mono (Kd.R_far (p := ⟨gb783, 2, none⟩) (Kd.R_far (p := ⟨gb783, 1, none⟩) (Kd.R_far (p := ⟨gb783, 0, none⟩) (Kd.R_types HO802.out BK783.out (by decide)) (fun _ hk => hk.2) (.int .i64 a1)) (fun _ hk => hk.2) (.int .i64 x6_1)) (fun _ hk => hk.2) (.slice Ao44 t800.length co44)) (fun _ hk => trivial), Hlp.bl HB.out⟩
      ·
       rw [if_neg c36] at H
       exact absurd H (by simp)
     ·
      rw [if_neg c35] at H
      exact absurd H (by simp)
   ·
    rw [if_neg c4] at H
    have c4b0 : decide (x7_1 < (l0.length : Int)) = false := decide_eq_false c4
    clear c4
    by_cases c46 : 0 ≤ x7_1
    ·
     rw [if_pos c46] at H
     have c46b0 := eq_true c46
     have c46b1 : decide (0 ≤ x7_1) = true := decide_eq_true c46
     clear c46
     by_cases c47 : x7_1 ≤ (l0.length : Int)
     ·
      rw [if_pos c47] at H
      have c47b0 := eq_true c47
      have c47b1 : decide (x7_1 ≤ (l0.length : Int)) = true := decide_eq_true c47
      clear c47
      replace H := Option.bind_eq_some_iff.mp H
      obtain ⟨t804, A480, H⟩ := H
      replace H : (some (a1, x6_1, t804, x7_1)) = some (r1, r2, r3, r4) := H
      have A48 := Aside0.mk A480
      clear A480
      simp only [Option.some.injEq, Prod.mk.injEq] at H
      obtain ⟨rfl, rfl, rfl, rfl⟩ := H
      obtain ⟨i049, hi049, _, hsz49, _⟩ := info_parts info5
      obtain ⟨hcut49, hA49, hC49⟩ := print_take_of (P := Try.prog) (Value.int .u8) 0 28 5 .i64 Try.underlying28 hi049 hsz49 A0 c0 l0 x7_1 (of_decide_eq_true (by first | (with_reducible assumption) | assumption)) (of_decide_eq_true (by first | (with_reducible assumption) | assumption)) HC0.out
      have HR803 := Aside0.mk (Kd.C_of_reads (h1 := fun _ => rfl) (hA49 _ (Kd.reads_of_C HR0.out)))
      have HC803 := Aside0.mk hC49
      clear hA49 hC49 hi049 hsz49
      go_wp2_with (first | ((with_reducible refine gate_callee (f := 78) rfl ?_); refine goesL_ (some 43) rfl rfl Try.func78 (by kernel_rfl) rfl #[.slice A0 (l0.take (x7_1 : Int).toNat).length c0, .slice none 0 0] rfl (by (try simp only [List.map_toArray, List.map_cons, List.map_nil]); first | done | (rw [show (l0.take (x7_1 : Int).toNat).length = x7_1.toNat from (by rw [List.length_take]; have h_ : (x7_1 : Int) ≤ (l0.length : Int) := of_decide_eq_true (by first | (with_reducible assumption) | assumption); omega)] <;> rfl) | rfl | (simp only [List.length_drop, List.length_take]; rfl)) ?_; (refine (segment_owned.calls _ _ (l0.take (x7_1 : Int).toNat) _ _ ([] : List Int) t804 _ ?side1 ?side2 ?side3 ?side4 A48.out).mono ?_); (case side1 => exact Hlp.cp (Kd.C_below HR803.out HB.out)); (case side2 => exact HC803.out); (case side3 => exact Kd.C_nil _ _); (case side4 => exact Nat.le_refl _); rintro e w50 ⟨v805, rfl, ho0, hb⟩; refine ⟨_, rfl, ?_⟩; have HO806 := Aside0.mk (Kd.R_lower ho0 (below_size (Hlp.bl HB.out))); replace BK783 := Aside0.mk (blk_below (g := gb783) (o := .cells #[.int .i64 0, .int .i64 0, .slice none 0 0] 43 (0, 0)) (Hlp.bp BK783.out) hb); replace HB := Aside0.mk (below_step (Hlp.bl HB.out) hb); (try clear hb); (try clear hb2); (try clear hk); (try clear hi); (try clear ho0); obtain ⟨Ao51, co51, eo51⟩ := Kd.R_slice HO806.out; subst eo51; have hcz52_0 : w50.cell? ⟨gb783, 0, none⟩ = some (.int .i64 0) := (blk_cell BK783.out 0).trans rfl; have hcz52_1 : w50.cell? ⟨gb783, 1, none⟩ = some (.int .i64 0) := (blk_cell BK783.out 1).trans rfl; have hcz52_2 : w50.cell? ⟨gb783, 2, none⟩ = some (.slice none 0 0) := (blk_cell BK783.out 2).trans rfl; have hfz52_0 := blk_frozen BK783.out 0; have hfz52_1 := blk_frozen BK783.out 1; have hfz52_2 := blk_frozen BK783.out 2))
      refine bodyPost_ret (results_ct rfl _ _ gb783 43 #[.int .i64 a1, .int .i64 x6_1, .slice Ao51 t804.length co51] (0, 0) _ rfl (by refine Hlp.bp (blk_put (cs := #[.int .i64 a1, .int .i64 x6_1, .slice none 0 0]) ?_ 2 _ rfl); refine Hlp.bp (blk_put (cs := #[.int .i64 a1, .int .i64 0, .slice none 0 0]) ?_ 1 _ rfl); refine Hlp.bp (blk_put (cs := #[.int .i64 0, .int .i64 0, .slice none 0 0]) ?_ 0 _ rfl); exact Hlp.bp BK783.out) Try.underlying43 rfl (by kernel_rfl)) rfl ?_
      exact ⟨_, by first | rfl | (simp [errW_none, errW_some] <;> rfl) | (simp [*, errW_none, errW_some] <;> rfl), by (with_reducible repeat (first | apply Kd.R_alloc | apply Kd.R_drewN | apply Kd.R_drew)); exact Kd.R_mono (Kd.R_far (p := ⟨gb783, 2, none⟩) (Kd.R_far (p := ⟨gb783, 1, none⟩) (Kd.R_far (p := ⟨gb783, 0, none⟩) (Kd.R_types HO806.out BK783.out (by decide)) (fun _ hk => hk.2) (.int .i64 a1)) (fun _ hk => hk.2) (.int .i64 x6_1)) (fun _ hk => hk.2) (.slice Ao51 t804.length co51)) (fun _ hk => trivial), Hlp.bl HB.out⟩
     ·
      rw [if_neg c47] at H
      exact absurd H (by simp)
    ·
     rw [if_neg c46] at H
     exact absurd H (by simp)

end Go.Proofs.Ytkkelbakadbbhaa.J
