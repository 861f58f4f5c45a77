/- Lean functions that compute what the Go functions named below compute; each theorem '.calls': if its Lean function has an answer, the Go function returns it. -/
import Derived.Test.YtkkelbakadbbhaaYx0
import Derived.Test.YtkkelbakadbbhaaH
import Derived.Test.YtkkelbakadbbhaaYref321
import Derived.Test.YtkkelbakadbbhaaYref322
import Derived.Test.YtkkelbakadbbhaaYref324
namespace Go.Proofs.Ytkkelbakadbbhaa.J
open Go.RowKit Go.Proofs.YtkkelbakadbbhaaW.PrintWords Go.Proofs.YtkkelbakadbbhaaW.PrintLast Go.Proofs.YtkkelbakadbbhaaW.PrintMore
attribute [local go_sem] max2_int min2_int max_two min_two max_three min_three max_four min_four   -- for this text's walks alone
set_option linter.unusedVariables false
set_option linter.unusedSimpArgs false

/-! ### brokerref32_Truncate: function 58 -/
def brokerref32_Truncate.l0 : Nat → Int → List (S23) → Int → Int → Int → List Int → Option (Int × Int × List Int)
 | 0, _, _, _, _, _, _ => none
 | k + 1, x1, x6, x7, x890000, x890001, x890002 => if x7 < (x6.length : Int) then (if 0 ≤ x7 then (if ((rd_T23 x6 x7).f0) < x1 then ((brokerref32_Append.f k x890000 x890001 x890002 ((rd_T23 x6 x7).f1) ((rd_T23 x6 x7).f2) ((rd_T23 x6 x7).f3)).bind fun bt897 => (brokerref32_Truncate.l0 k x1 x6 (wrap64 (x7 + 1)) bt897.1 bt897.2.1 bt897.2.2.1)) else (brokerref32_Truncate.l0 k x1 x6 (wrap64 (x7 + 1)) x890000 x890001 x890002)) else (none)) else (some (x890000, x890001, x890002))
def brokerref32_Truncate.f (k : Nat) (a0_0 : Int) (a0_1 : Int) (l0_2 : List Int) (a1 : Int) : Option (Int × Int × List Int) := (brokerref32_New.f a0_0).bind fun bt884 => ((brokerref32_Records.f k a0_0 a0_1 l0_2).bind fun t890 => (brokerref32_Truncate.l0 k a1 t890 0 bt884.1 bt884.2.1 bt884.2.2))
theorem brokerref32_Truncate.mono_l : ∀ k, (∀ y0 y1 y2 y3 y4 y5, LeO (brokerref32_Truncate.l0 k y0 y1 y2 y3 y4 y5) (brokerref32_Truncate.l0 (k + 1) y0 y1 y2 y3 y4 y5))
 | 0 => fun _ _ _ _ _ _ r h => by simp [brokerref32_Truncate.l0] at h
 | k + 1 => by
  have ih0 := brokerref32_Truncate.mono_l k
  ·
   intro y0 y1 y2 y3 y4 y5
   unfold brokerref32_Truncate.l0
   repeat' first
   | (with_reducible exact ih0 _ _ _ _ _ _)
   | (with_reducible exact brokerref32_Append.mono _ _ _ _ _ _ _)
   | (with_reducible exact brokerref32_Records.mono _ _ _ _)
   | (with_reducible exact LeO.refl _)
   | (with_reducible exact LeO.none _)
   | (with_reducible refine LeO.ite ?_ ?_)
   | (with_reducible refine LeO.bind ?_ (fun _ => ?_))
   | exact ih0 _ _ _ _ _ _
   | exact brokerref32_Append.mono _ _ _ _ _ _ _
   | exact brokerref32_Records.mono _ _ _ _
   | exact LeO.none _
   | refine LeO.ite ?_ ?_
   | refine LeO.bind ?_ (fun _ => ?_)
theorem brokerref32_Truncate.mono : ∀ a0 a1 a2 a3 k, LeO (brokerref32_Truncate.f k a0 a1 a2 a3) (brokerref32_Truncate.f (k + 1) a0 a1 a2 a3) := by
 intro a0 a1 a2 a3 k
 have ih0 := brokerref32_Truncate.mono_l k
 unfold brokerref32_Truncate.f
 repeat' first
  | (with_reducible exact ih0 _ _ _ _ _ _)
  | (with_reducible exact brokerref32_Append.mono _ _ _ _ _ _ _)
  | (with_reducible exact brokerref32_Records.mono _ _ _ _)
  | (with_reducible exact LeO.refl _)
  | (with_reducible exact LeO.none _)
  | (with_reducible refine LeO.ite ?_ ?_)
  | (with_reducible refine LeO.bind ?_ (fun _ => ?_))
  | exact ih0 _ _ _ _ _ _
  | exact brokerref32_Append.mono _ _ _ _ _ _ _
  | exact brokerref32_Records.mono _ _ _ _
  | exact LeO.none _
  | refine LeO.ite ?_ ?_
  | refine LeO.bind ?_ (fun _ => ?_)
def brokerref32_Truncate.T7 : Bool × List (List Nat × List Nat) := (true, [([], []), ([], []), ([], []), ([1, 2], [1, 2]), ([3], [3]), ([4], [4]), ([], []), ([], []), ([6, 7], [6, 7]), ([8], [8]), ([9], [9]), ([], []), ([], []), ([11, 12], [11, 12]), ([13], [13]), ([14], [14]), ([0, 5, 10, 15], [0, 5, 10, 15]), ([16], [16]), ([17], [17]), ([17], [17]), ([17], [17]), ([18, 16, 0, 1, 2, 3, 4, 5, 6, 7, 8, 9, 10, 11, 12, 13, 14, 15, 16, 17, 18], [18])])
def brokerref32_Truncate.B7 : List Nat := [0, 0, 0, 6, 14, 30, 0, 0, 192, 448, 960, 0, 0, 6144, 14336, 30720, 65535, 131071, 262143, 262143, 262143, 524287]
theorem brokerref32_Truncate.tab7 : rtab .any (opsOf Try.f58 7) = brokerref32_Truncate.T7 := by kernel_rfl
theorem brokerref32_Truncate.bits7 : waitsOk brokerref32_Truncate.T7.2 brokerref32_Truncate.B7 = true := by kernel_rfl
set_option maxHeartbeats 8000000 in
set_option maxRecDepth 100000 in
theorem brokerref32_Truncate.calls (k : Nat) (a0_0 : Int) (a0_1 : Int) (A0_2 : Option Addr) (c0_2 : Nat) (l0_2 : List Int) (a1 : Int) (r1 : Int) (r2 : Int) (r3 : List Int) (w : World) (hr0_2 : Kd.C (Kd.int .u8) w A0_2 l0_2.length l0_2) (hc0_2 : l0_2.length ≤ c0_2) (h : brokerref32_Truncate.f k a0_0 a0_1 l0_2 a1 = some (r1, r2, r3)) :
 Calls Try.prog 58 #[.agg #[.int .i64 a0_0, .int .i64 a0_1, .slice A0_2 l0_2.length c0_2], .int .i64 a1] w fun e w' => ∃ v2_ : Value, e = .returned (.agg #[.int .i64 r1, .int .i64 r2, v2_]) ∧ Kd.R (Kd.int .u8) 5 w' w.heap.size (fun _ => True) v2_ r3 ∧ Below w.heap.size w w' := by
 have hu43 := Try.underlying43
 have HR0_2 := Aside0.mk hr0_2
 have HC0_2 := Aside0.mk hc0_2
 clear hr0_2 hc0_2
 have HB := Aside0.mk (Below.refl w.heap.size w)
 have H : ((brokerref32_New.f a0_0).bind fun bt884 => ((brokerref32_Records.f k a0_0 a0_1 l0_2).bind fun t890 => (brokerref32_Truncate.l0 k a1 t890 0 bt884.1 bt884.2.1 bt884.2.2))) = some (r1, r2, r3) := h
 clear h
 replace H := Option.bind_eq_some_iff.mp H
 obtain ⟨⟨t884, t885, t886⟩, A30, H⟩ := H
 replace H : ((brokerref32_Records.f k a0_0 a0_1 l0_2).bind fun t890 => (brokerref32_Truncate.l0 k a1 t890 0 t884 t885 t886)) = some (r1, r2, r3) := H
 have A3 := Aside0.mk A30
 clear A30
 replace H := Option.bind_eq_some_iff.mp H
 obtain ⟨t890, A40, H⟩ := H
 replace H : (brokerref32_Truncate.l0 k a1 t890 0 t884 t885 t886) = some (r1, r2, r3) := H
 have A4 := Aside0.mk A40
 clear A40
 have H' := Aside0.mk H
 clear H
 go_enter Try.func58, Try.ntmps58
 go_wp2_with (first | ((with_reducible refine gate_dst (N := 2) rfl ?_); refine Hlp.bx (N := 2) (cs := #[.int .i64 a0_0, .int .i64 a0_1, .slice A0_2 l0_2.length c0_2]) (t := 43) ?_; intro gb882 hg w5 hbox hb; have BK882 := Aside0.mk (hbox); have GW882 := Aside0.mk ((by rw [hg]; exact (below_size (Hlp.bl HB.out)) : w.heap.size ≤ gb882)); have GE882 := Aside0.mk ((by rw [hg]; exact (below_size (Hlp.bl HB.out)) : w.heap.size ≤ gb882)); replace HB := Aside0.mk (below_step (Hlp.bl HB.out) hb); clear hb hbox hg) | ((with_reducible refine gate_dst (N := 4) rfl ?_); refine Hlp.bx (N := 4) (cs := #[.int .i64 0, .int .i64 0, .slice none 0 0]) (t := 43) ?_; intro gb883 hg w6 hbox hb; have BK883 := Aside0.mk (hbox); have GW883 := Aside0.mk ((by rw [hg]; exact (below_size (Hlp.bl HB.out)) : w.heap.size ≤ gb883)); have GE883 := Aside0.mk ((by rw [hg]; exact (below_size (Hlp.bl HB.out)) : w.heap.size ≤ gb883)); replace HB := Aside0.mk (below_step (Hlp.bl HB.out) hb); have NB882_883 := Aside0.mk ((by rw [hg]; exact Nat.ne_of_lt (blk_lt (g := gb882) (o := .cells #[.int .i64 a0_0, .int .i64 a0_1, .slice A0_2 l0_2.length c0_2] 43 (0, 0)) (Hlp.bp BK882.out)) : gb882 ≠ gb883)); have NB883_882 := Aside0.mk ((by rw [hg]; exact Nat.ne_of_gt (blk_lt (g := gb882) (o := .cells #[.int .i64 a0_0, .int .i64 a0_1, .slice A0_2 l0_2.length c0_2] 43 (0, 0)) (Hlp.bp BK882.out)) : gb883 ≠ gb882)); replace BK882 := Aside0.mk (blk_below (g := gb882) (o := .cells #[.int .i64 a0_0, .int .i64 a0_1, .slice A0_2 l0_2.length c0_2] 43 (0, 0)) (Hlp.bp BK882.out) hb); clear hb hbox hg; have hnb7 := NB882_883.out; have hnc7 := NB883_882.out; have hcz8_0 : w6.cell? ⟨gb882, 0, none⟩ = some (.int .i64 a0_0) := (blk_cell BK882.out 0).trans rfl; have hcz8_1 : w6.cell? ⟨gb882, 1, none⟩ = some (.int .i64 a0_1) := (blk_cell BK882.out 1).trans rfl; have hcz8_2 : w6.cell? ⟨gb882, 2, none⟩ = some (.slice A0_2 l0_2.length c0_2) := (blk_cell BK882.out 2).trans rfl; have hfz8_0 := blk_frozen BK882.out 0; have hfz8_1 := blk_frozen BK882.out 1; have hfz8_2 := blk_frozen BK882.out 2) | ((with_reducible refine gate_callee (f := 52) rfl ?_); refine Hlp.gl (some 10) Try.func52 #[.int .i64 a0_0] ?_; (with_reducible refine (brokerref32_New.calls a0_0 t884 t885 t886 _ A3.out).mono ?_); rintro e w9 ⟨v887, rfl, ho0, hb⟩; refine ⟨_, rfl, ?_⟩; have HO888 := Aside0.mk (Kd.R_lower ho0 (below_size (Hlp.bl HB.out))); replace BK882 := Aside0.mk (blk_below (g := gb882) (o := .cells #[.int .i64 a0_0, .int .i64 a0_1, .slice A0_2 l0_2.length c0_2] 43 (0, 0)) (Hlp.bp BK882.out) hb); replace BK883 := Aside0.mk (blk_below (g := gb883) (o := .cells #[.int .i64 0, .int .i64 0, .slice none 0 0] 43 (0, 0)) (Hlp.bp BK883.out) hb); replace HB := Aside0.mk (below_step (Hlp.bl HB.out) hb); (try clear hb); (try clear hb2); (try clear hk); (try clear hi); (try clear ho0)) | ((with_reducible refine gate_dst (N := 5) rfl ?_); refine Hlp.bx (N := 5) (cs := #[.int .i64 0, .int .i64 0, .slice none 0 0]) (t := 43) ?_; intro gb889 hg w10 hbox hb; replace HO888 := Aside0.mk (Kd.R_below (Hlp.rp HO888.out) hb); have BK889 := Aside0.mk (hbox); have GW889 := Aside0.mk ((by rw [hg]; exact (below_size (Hlp.bl HB.out)) : w.heap.size ≤ gb889)); have GE889 := Aside0.mk ((by rw [hg]; exact (below_size (Hlp.bl HB.out)) : w.heap.size ≤ gb889)); replace HB := Aside0.mk (below_step (Hlp.bl HB.out) hb); have NB882_889 := Aside0.mk ((by rw [hg]; exact Nat.ne_of_lt (blk_lt (g := gb882) (o := .cells #[.int .i64 a0_0, .int .i64 a0_1, .slice A0_2 l0_2.length c0_2] 43 (0, 0)) (Hlp.bp BK882.out)) : gb882 ≠ gb889)); have NB889_882 := Aside0.mk ((by rw [hg]; exact Nat.ne_of_gt (blk_lt (g := gb882) (o := .cells #[.int .i64 a0_0, .int .i64 a0_1, .slice A0_2 l0_2.length c0_2] 43 (0, 0)) (Hlp.bp BK882.out)) : gb889 ≠ gb882)); replace BK882 := Aside0.mk (blk_below (g := gb882) (o := .cells #[.int .i64 a0_0, .int .i64 a0_1, .slice A0_2 l0_2.length c0_2] 43 (0, 0)) (Hlp.bp BK882.out) hb); have NB883_889 := Aside0.mk ((by rw [hg]; exact Nat.ne_of_lt (blk_lt (g := gb883) (o := .cells #[.int .i64 0, .int .i64 0, .slice none 0 0] 43 (0, 0)) (Hlp.bp BK883.out)) : gb883 ≠ gb889)); have NB889_883 := Aside0.mk ((by rw [hg]; exact Nat.ne_of_gt (blk_lt (g := gb883) (o := .cells #[.int .i64 0, .int .i64 0, .slice none 0 0] 43 (0, 0)) (Hlp.bp BK883.out)) : gb889 ≠ gb883)); replace BK883 := Aside0.mk (blk_below (g := gb883) (o := .cells #[.int .i64 0, .int .i64 0, .slice none 0 0] 43 (0, 0)) (Hlp.bp BK883.out) hb); clear hb hbox hg; have hnb11 := NB889_882.out; have hnc11 := NB882_889.out; have hnb12 := NB889_883.out; have hnc12 := NB883_889.out; have hcz13_0 : w10.cell? ⟨gb889, 0, none⟩ = some (.int .i64 0) := (blk_cell BK889.out 0).trans rfl; have hcz13_1 : w10.cell? ⟨gb889, 1, none⟩ = some (.int .i64 0) := (blk_cell BK889.out 1).trans rfl; have hcz13_2 : w10.cell? ⟨gb889, 2, none⟩ = some (.slice none 0 0) := (blk_cell BK889.out 2).trans rfl; have hfz13_0 := blk_frozen BK889.out 0; have hfz13_1 := blk_frozen BK889.out 1; have hfz13_2 := blk_frozen BK889.out 2; obtain ⟨Ao14, co14, eo14⟩ := Kd.R_slice HO888.out; subst eo14; have hcz15_0 : w10.cell? ⟨gb882, 0, none⟩ = some (.int .i64 a0_0) := (blk_cell BK882.out 0).trans rfl; have hcz15_1 : w10.cell? ⟨gb882, 1, none⟩ = some (.int .i64 a0_1) := (blk_cell BK882.out 1).trans rfl; have hcz15_2 : w10.cell? ⟨gb882, 2, none⟩ = some (.slice A0_2 l0_2.length c0_2) := (blk_cell BK882.out 2).trans rfl; have hfz15_0 := blk_frozen BK882.out 0; have hfz15_1 := blk_frozen BK882.out 1; have hfz15_2 := blk_frozen BK882.out 2) | ((with_reducible refine gate_callee (f := 56) rfl ?_); refine Hlp.gl (some 12) Try.func56 #[.agg #[.int .i64 a0_0, .int .i64 a0_1, .slice A0_2 l0_2.length c0_2]] ?_; (with_reducible refine (brokerref32_Records.calls k a0_0 a0_1 _ _ l0_2 t890 _ ?side1 ?side2 A4.out).mono ?_); (case side1 => exact Kd.C_below HR0_2.out (Hlp.bl HB.out)); (case side2 => exact HC0_2.out); rintro e w16 ⟨v891, rfl, ho0, hb⟩; refine ⟨_, rfl, ?_⟩; replace HO888 := Aside0.mk (Kd.R_below (by (with_reducible repeat (first | apply Kd.R_alloc | apply Kd.R_drewN | apply Kd.R_drew)); exact (Kd.R_mono (Kd.R_far (p := ⟨gb889, 2, none⟩) (Kd.R_far (p := ⟨gb889, 1, none⟩) (Kd.R_far (p := ⟨gb889, 0, none⟩) (Kd.R_types HO888.out BK889.out (by decide)) (fun _ hk => hk.2) (.int .i64 t884)) (fun _ hk => hk.2) (.int .i64 t885)) (fun _ hk => hk.2) (.slice Ao14 t886.length co14)) (fun _ h_ => h_.1))) hb); have HO892 := Aside0.mk (Kd.R_lower ho0 (below_size (Hlp.bl HB.out))); replace BK882 := Aside0.mk (blk_below (g := gb882) (o := .cells #[.int .i64 a0_0, .int .i64 a0_1, .slice A0_2 l0_2.length c0_2] 43 (0, 0)) (by refine Hlp.bp (blk_far ?_ NB882_889.out _); refine Hlp.bp (blk_far ?_ NB882_889.out _); refine Hlp.bp (blk_far ?_ NB882_889.out _); exact Hlp.bp BK882.out) hb); replace BK883 := Aside0.mk (blk_below (g := gb883) (o := .cells #[.int .i64 0, .int .i64 0, .slice none 0 0] 43 (0, 0)) (by refine Hlp.bp (blk_far ?_ NB883_889.out _); refine Hlp.bp (blk_far ?_ NB883_889.out _); refine Hlp.bp (blk_far ?_ NB883_889.out _); exact Hlp.bp BK883.out) hb); replace BK889 := Aside0.mk (blk_below (g := gb889) (o := .cells #[.int .i64 t884, .int .i64 t885, .slice Ao14 t886.length co14] 43 (0, 0)) (by refine Hlp.bp (blk_put (cs := #[.int .i64 t884, .int .i64 t885, .slice none 0 0]) ?_ 2 _ rfl); refine Hlp.bp (blk_put (cs := #[.int .i64 t884, .int .i64 0, .slice none 0 0]) ?_ 1 _ rfl); refine Hlp.bp (blk_put (cs := #[.int .i64 0, .int .i64 0, .slice none 0 0]) ?_ 0 _ rfl); exact Hlp.bp BK889.out) hb); replace HB := Aside0.mk (below_step (Hlp.bl HB.out) hb); (try clear hb); (try clear hb2); (try clear hk); (try clear hi); (try clear ho0)))
 go_loopg [7] k (fun kq v7 w' => ∃ (x7_1 : Int) (x890000_1 : Int) (x890001_1 : Int) (x890002_1 : List Int) (u890002 : Value), v7 = .int .i64 x7_1 ∧ Aside0 (brokerref32_Truncate.l0 kq a1 t890 x7_1 x890000_1 x890001_1 x890002_1 = some (r1, r2, r3)) ∧ Aside0 (kq ≤ k) ∧ Aside0 (Kd.R k23 23 w' w.heap.size (fun _ => True) v891 t890) ∧ Aside0 (Kd.R (Kd.int .u8) 5 w' w.heap.size (fun _ => True) u890002 x890002_1) ∧ Aside0 (w'.heap[gb882]? = some (.cells #[.int .i64 a0_0, .int .i64 a0_1, (.slice A0_2 l0_2.length c0_2)] 43 (0, 0))) ∧ Aside0 (w'.heap[gb883]? = some (.cells #[.int .i64 0, .int .i64 0, (.slice none 0 0)] 43 (0, 0))) ∧ Aside0 (w'.heap[gb889]? = some (.cells #[.int .i64 x890000_1, .int .i64 x890001_1, u890002] 43 (0, 0))) ∧ Aside0 (Below w.heap.size w w'))
 case atStart => exact ⟨(0), (t884), (t885), (t886), (.slice Ao14 t886.length co14), (by first | rfl | (simp; done) | (simp [*]; done)), H', ⟨Nat.le_refl _⟩, ⟨by (with_reducible repeat (first | apply Kd.R_alloc | apply Kd.R_drewN | apply Kd.R_drew)); exact HO892.out⟩, ⟨by (with_reducible repeat (first | apply Kd.R_alloc | apply Kd.R_drewN | apply Kd.R_drew)); exact HO888.out⟩, ⟨by exact Hlp.bp BK882.out⟩, ⟨by exact Hlp.bp BK883.out⟩, ⟨by exact Hlp.bp BK889.out⟩, ⟨Hlp.bl HB.out⟩⟩
 case round =>
  clear H'
  try clear c1
  try clear p2
  try clear c5
  try clear c7
  try clear c11
  try clear c12
  try clear hcz13_0
  try clear hcz13_1
  try clear hcz13_2
  try clear hcz15_0
  try clear hcz15_1
  try clear hcz15_2
  try clear hcz8_0
  try clear hcz8_1
  try clear hcz8_2
  try clear hfz13_0
  try clear hfz13_1
  try clear hfz13_2
  try clear hfz15_0
  try clear hfz15_1
  try clear hfz15_2
  try clear hfz8_0
  try clear hfz8_1
  try clear hfz8_2
  obtain ⟨x7_1, x890000_1, x890001_1, x890002_1, u890002, rfl, HA, HK1, HO_6, HO_890002, BK882, BK883, BK889, HB⟩ := hrel
  cases gk with
  | zero => exact absurd HA.out (by simp [brokerref32_Truncate.l0])
  | succ k1 =>
   have H := HA.out
   clear HA
   simp only [brokerref32_Truncate.l0] at H
   by_cases c17 : x7_1 < (t890.length : Int)
   ·
    rw [if_pos c17] at H
    have c17b0 : decide (x7_1 < (t890.length : Int)) = true := decide_eq_true c17
    clear c17
    by_cases c18 : 0 ≤ x7_1
    ·
     rw [if_pos c18] at H
     have c18b0 : decide (0 ≤ x7_1) = true := decide_eq_true c18
     clear c18
     by_cases c19 : ((rd_T23 t890 x7_1).f0) < a1
     ·
      rw [if_pos c19] at H
      have c19b0 : decide (((rd_T23 t890 x7_1).f0) < a1) = true := decide_eq_true c19
      clear c19
      replace H := Option.bind_eq_some_iff.mp H
      obtain ⟨⟨t897, t898, t899, t902, t903⟩, A200, H⟩ := H
      replace H : (brokerref32_Truncate.l0 k1 a1 t890 (wrap64 (x7_1 + 1)) t897 t898 t899) = some (r1, r2, r3) := H
      have A20 := Aside0.mk A200
      clear A200
      have H' := Aside0.mk H
      clear H
      obtain ⟨Ao21, co21, eo21⟩ := Kd.R_slice HO_6.out
      subst eo21
      have p893 : 0 ≤ (x7_1 : Int) := of_decide_eq_true (by first | (with_reducible assumption) | assumption)
      have q893 : x7_1 < (t890.length : Int) := of_decide_eq_true (by first | (with_reducible assumption) | assumption)
      obtain ⟨ad893, e893, hx893_0, hx893_1, hx893_2, hx893_3⟩ := at_T23 (Kd.R_reads' HO_6.out).2.2 x7_1 p893 q893
      cases e893
      replace p893 := eq_true p893
      replace q893 := eq_true q893
      try go_wp2
      replace HO_6 := Aside0.mk (Kd.R_drew HO_6.out)
      replace HO_890002 := Aside0.mk (Kd.R_drew HO_890002.out)
      replace BK882 := Aside0.mk (blk_drew BK882.out)
      replace BK883 := Aside0.mk (blk_drew BK883.out)
      replace BK889 := Aside0.mk (blk_drew BK889.out)
      replace HB := Aside0.mk (below_drew1 HB.out)
      have p894 : 0 ≤ (x7_1 : Int) := of_decide_eq_true (by first | (with_reducible assumption) | assumption)
      have q894 : x7_1 < (t890.length : Int) := of_decide_eq_true (by first | (with_reducible assumption) | assumption)
      obtain ⟨ad894, e894, hx894_0, hx894_1, hx894_2, hx894_3⟩ := at_T23 (Kd.R_reads' HO_6.out).2.2 x7_1 p894 q894
      obtain rfl : ad893 = ad894 := (by injection e894)
      replace p894 := eq_true p894
      replace q894 := eq_true q894
      have p895 : 0 ≤ (x7_1 : Int) := of_decide_eq_true (by first | (with_reducible assumption) | assumption)
      have q895 : x7_1 < (t890.length : Int) := of_decide_eq_true (by first | (with_reducible assumption) | assumption)
      obtain ⟨ad895, e895, hx895_0, hx895_1, hx895_2, hx895_3⟩ := at_T23 (Kd.R_reads' HO_6.out).2.2 x7_1 p895 q895
      obtain rfl : ad893 = ad895 := (by injection e895)
      replace p895 := eq_true p895
      replace q895 := eq_true q895
      have p896 : 0 ≤ (x7_1 : Int) := of_decide_eq_true (by first | (with_reducible assumption) | assumption)
      have q896 : x7_1 < (t890.length : Int) := of_decide_eq_true (by first | (with_reducible assumption) | assumption)
      obtain ⟨ad896, e896, hx896_0, hx896_1, hx896_2, hx896_3⟩ := at_T23 (Kd.R_reads' HO_6.out).2.2 x7_1 p896 q896
      obtain rfl : ad893 = ad896 := (by injection e896)
      replace p896 := eq_true p896
      replace q896 := eq_true q896
      obtain ⟨Ao23, co23, eo23⟩ := Kd.R_slice HO_890002.out
      (first | subst eo23 | (injection eo23 with f1_ f2_ f3_; have f4_ := f1_.symm; have f5_ := f3_.symm; clear f1_ f2_ f3_; subst f4_; subst f5_))
      refine start_ (n := 22) (S := fun w' => w'.cell? ⟨gb889, 0, none⟩ = some (.int .i64 x890000_1) ∧ w'.cell? ⟨gb889, 1, none⟩ = some (.int .i64 x890001_1) ∧ w'.cell? ⟨gb889, 2, none⟩ = some (.slice Ao23 x890002_1.length co23) ∧ w'.cell? (ad893.add ((x7_1).toNat * 4)) = some (.int .i64 ((rd_T23 t890 x7_1).f0)) ∧ w'.cell? ⟨(ad893.add ((x7_1).toNat * 4)).block, (ad893.add ((x7_1).toNat * 4)).off + 1, none⟩ = some (.int .i64 ((rd_T23 t890 x7_1).f1)) ∧ w'.cell? ⟨(ad893.add ((x7_1).toNat * 4)).block, (ad893.add ((x7_1).toNat * 4)).off + 2, none⟩ = some (.string ((rd_T23 t890 x7_1).f2)) ∧ w'.cell? ⟨(ad893.add ((x7_1).toNat * 4)).block, (ad893.add ((x7_1).toNat * 4)).off + 3, none⟩ = some (.string ((rd_T23 t890 x7_1).f3)) ∧ w'.cell? (ad893.add ((x7_1).toNat * 4)) = some (.int .i64 ((rd_T23 t890 x7_1).f0)) ∧ w'.cell? ⟨(ad893.add ((x7_1).toNat * 4)).block, (ad893.add ((x7_1).toNat * 4)).off + 1, none⟩ = some (.int .i64 ((rd_T23 t890 x7_1).f1)) ∧ w'.cell? ⟨(ad893.add ((x7_1).toNat * 4)).block, (ad893.add ((x7_1).toNat * 4)).off + 2, none⟩ = some (.string ((rd_T23 t890 x7_1).f2)) ∧ w'.cell? ⟨(ad893.add ((x7_1).toNat * 4)).block, (ad893.add ((x7_1).toNat * 4)).off + 3, none⟩ = some (.string ((rd_T23 t890 x7_1).f3)) ∧ w'.cell? (ad893.add ((x7_1).toNat * 4)) = some (.int .i64 ((rd_T23 t890 x7_1).f0)) ∧ w'.cell? ⟨(ad893.add ((x7_1).toNat * 4)).block, (ad893.add ((x7_1).toNat * 4)).off + 1, none⟩ = some (.int .i64 ((rd_T23 t890 x7_1).f1)) ∧ w'.cell? ⟨(ad893.add ((x7_1).toNat * 4)).block, (ad893.add ((x7_1).toNat * 4)).off + 2, none⟩ = some (.string ((rd_T23 t890 x7_1).f2)) ∧ w'.cell? ⟨(ad893.add ((x7_1).toNat * 4)).block, (ad893.add ((x7_1).toNat * 4)).off + 3, none⟩ = some (.string ((rd_T23 t890 x7_1).f3))) (ds := [21]) #[false, false, false, false, false, false, false, false, false, false, false, false, false, false, false, false, false, false, false, false, false, false] (by kernel_rfl) rfl rfl ⟨(blk_cell BK889.out 0).trans rfl, (blk_cell BK889.out 1).trans rfl, (blk_cell BK889.out 2).trans rfl, hx894_0, hx894_1, hx894_2, hx894_3, hx895_0, hx895_1, hx895_2, hx895_3, hx896_0, hx896_1, hx896_2, hx896_3⟩ (fun hHeld => ?_); refine with_tabW brokerref32_Truncate.tab7 brokerref32_Truncate.bits7 (fun HT_ HW_ => ?_)
      generalize wr.drew = w22 at HO_6 HO_890002 BK882 BK883 BK889 HB hx894_0 hx894_1 hx894_2 hx894_3 hx895_0 hx895_1 hx895_2 hx895_3 hx896_0 hx896_1 hx896_2 hx896_3 hHeld ⊢
      refine pure_ (i := 1) (N := some 28) (v := ?_) (a' := ?_) #[false, true, false, false, false, false, false, false, false, false, false, false, false, false, false, false, false, false, false, false, false, false] rfl rfl (any_of HT_.out (by kernel_rfl)) (fun _ _ _ h => h) (Or.inl ⟨by rfl, ?_⟩) ?_ ?_
      rotate_left
      ·
       intro w'
       go_simp
       with_reducible rfl
      rotate_left
      ·
       simp only [Act.put, List.setIfInBounds_toArray, List.set_cons_zero, List.set_cons_succ, i64_w, i32_w]
       rfl
      refine pure_ (i := 2) (N := some 29) (v := ?_) (a' := ?_) #[false, true, true, false, false, false, false, false, false, false, false, false, false, false, false, false, false, false, false, false, false, false] rfl rfl (any_of HT_.out (by kernel_rfl)) (fun _ _ _ h => h) (Or.inl ⟨by rfl, ?_⟩) ?_ ?_
      rotate_left
      ·
       intro w'
       go_simp
       with_reducible rfl
      rotate_left
      ·
       simp only [Act.put, List.setIfInBounds_toArray, List.set_cons_zero, List.set_cons_succ, i64_w, i32_w]
       rfl
      refine pure_ (i := 3) (N := some 30) (v := ?_) (a' := ?_) #[false, true, true, true, false, false, false, false, false, false, false, false, false, false, false, false, false, false, false, false, false, false] rfl rfl (any_of HT_.out (by kernel_rfl)) (fun _ _ _ h => h) (Or.inl ⟨by rfl, ?_⟩) ?_ ?_
      rotate_left
      ·
       intro w'
       go_simp
       with_reducible rfl
      rotate_left
      ·
       simp only [Act.put, List.setIfInBounds_toArray, List.set_cons_zero, List.set_cons_succ, i64_w, i32_w]
       rfl
      refine pure_ (i := 4) (N := some 31) (v := ?_) (a' := ?_) #[false, true, true, true, true, false, false, false, false, false, false, false, false, false, false, false, false, false, false, false, false, false] rfl rfl (any_of HT_.out (by kernel_rfl)) (fun _ _ _ h => h) (Or.inl ⟨by rfl, ?_⟩) ?_ ?_
      rotate_left
      ·
       intro w'
       go_simp
       with_reducible rfl
      rotate_left
      ·
       simp only [Act.put, List.setIfInBounds_toArray, List.set_cons_zero, List.set_cons_succ, i64_w, i32_w]
       rfl
      refine pure_ (i := 6) (N := some 33) (v := ?_) (a' := ?_) #[false, true, true, true, true, false, true, false, false, false, false, false, false, false, false, false, false, false, false, false, false, false] rfl rfl (any_of HT_.out (by kernel_rfl)) (fun _ _ _ h => h) (Or.inl ⟨by rfl, ?_⟩) ?_ ?_
      rotate_left
      ·
       intro w'
       go_simp
       with_reducible rfl
      rotate_left
      ·
       simp only [Act.put, List.setIfInBounds_toArray, List.set_cons_zero, List.set_cons_succ, i64_w, i32_w]
       rfl
      refine pure_ (i := 7) (N := some 34) (v := ?_) (a' := ?_) #[false, true, true, true, true, false, true, true, false, false, false, false, false, false, false, false, false, false, false, false, false, false] rfl rfl (any_of HT_.out (by kernel_rfl)) (fun _ _ _ h => h) (Or.inl ⟨by rfl, ?_⟩) ?_ ?_
      rotate_left
      ·
       intro w'
       go_simp
       with_reducible rfl
      rotate_left
      ·
       simp only [Act.put, List.setIfInBounds_toArray, List.set_cons_zero, List.set_cons_succ, i64_w, i32_w]
       rfl
      refine pure_ (i := 8) (N := some 35) (v := ?_) (a' := ?_) #[false, true, true, true, true, false, true, true, true, false, false, false, false, false, false, false, false, false, false, false, false, false] rfl rfl (any_of HT_.out (by kernel_rfl)) (fun _ _ _ h => h) (Or.inl ⟨by rfl, ?_⟩) ?_ ?_
      rotate_left
      ·
       intro w'
       go_simp
       with_reducible rfl
      rotate_left
      ·
       simp only [Act.put, List.setIfInBounds_toArray, List.set_cons_zero, List.set_cons_succ, i64_w, i32_w]
       rfl
      refine pure_ (i := 9) (N := some 36) (v := ?_) (a' := ?_) #[false, true, true, true, true, false, true, true, true, true, false, false, false, false, false, false, false, false, false, false, false, false] rfl rfl (any_of HT_.out (by kernel_rfl)) (fun _ _ _ h => h) (Or.inl ⟨by rfl, ?_⟩) ?_ ?_
      rotate_left
      ·
       intro w'
       go_simp
       with_reducible rfl
      rotate_left
      ·
       simp only [Act.put, List.setIfInBounds_toArray, List.set_cons_zero, List.set_cons_succ, i64_w, i32_w]
       rfl
      refine pure_ (i := 11) (N := some 38) (v := ?_) (a' := ?_) #[false, true, true, true, true, false, true, true, true, true, false, true, false, false, false, false, false, false, false, false, false, false] rfl rfl (any_of HT_.out (by kernel_rfl)) (fun _ _ _ h => h) (Or.inl ⟨by rfl, ?_⟩) ?_ ?_
      rotate_left
      ·
       intro w'
       go_simp
       with_reducible rfl
      rotate_left
      ·
       simp only [Act.put, List.setIfInBounds_toArray, List.set_cons_zero, List.set_cons_succ, i64_w, i32_w]
       rfl
      refine pure_ (i := 12) (N := some 39) (v := ?_) (a' := ?_) #[false, true, true, true, true, false, true, true, true, true, false, true, true, false, false, false, false, false, false, false, false, false] rfl rfl (any_of HT_.out (by kernel_rfl)) (fun _ _ _ h => h) (Or.inl ⟨by rfl, ?_⟩) ?_ ?_
      rotate_left
      ·
       intro w'
       go_simp
       with_reducible rfl
      rotate_left
      ·
       simp only [Act.put, List.setIfInBounds_toArray, List.set_cons_zero, List.set_cons_succ, i64_w, i32_w]
       rfl
      refine pure_ (i := 13) (N := some 40) (v := ?_) (a' := ?_) #[false, true, true, true, true, false, true, true, true, true, false, true, true, true, false, false, false, false, false, false, false, false] rfl rfl (any_of HT_.out (by kernel_rfl)) (fun _ _ _ h => h) (Or.inl ⟨by rfl, ?_⟩) ?_ ?_
      rotate_left
      ·
       intro w'
       go_simp
       with_reducible rfl
      rotate_left
      ·
       simp only [Act.put, List.setIfInBounds_toArray, List.set_cons_zero, List.set_cons_succ, i64_w, i32_w]
       rfl
      refine pure_ (i := 14) (N := some 41) (v := ?_) (a' := ?_) #[false, true, true, true, true, false, true, true, true, true, false, true, true, true, true, false, false, false, false, false, false, false] rfl rfl (any_of HT_.out (by kernel_rfl)) (fun _ _ _ h => h) (Or.inl ⟨by rfl, ?_⟩) ?_ ?_
      rotate_left
      ·
       intro w'
       go_simp
       with_reducible rfl
      rotate_left
      ·
       simp only [Act.put, List.setIfInBounds_toArray, List.set_cons_zero, List.set_cons_succ, i64_w, i32_w]
       rfl
      refine take_ (i := 0) (N := some 27) (v := ?_) (a' := ?_) #[true, true, true, true, true, false, true, true, true, true, false, true, true, true, true, false, false, false, false, false, false, false] rfl rfl (take_ofW HT_.out HW_.out (by kernel_rfl)) (fun _ _ _ h => h) (Or.inl ⟨by rfl, ?_⟩) hHeld ?_ ?_
      rotate_left
      ·
       rintro w' ⟨s0, s1, s2, s3, s4, s5, s6, s7, s8, s9, s10, s11, s12, s13, s14⟩
       go_simp
       with_reducible rfl
      rotate_left
      ·
       simp only [Act.put, List.setIfInBounds_toArray, List.set_cons_zero, List.set_cons_succ, i64_w, i32_w]
       rfl
      refine take_ (i := 5) (N := some 32) (v := ?_) (a' := ?_) #[true, true, true, true, true, true, true, true, true, true, false, true, true, true, true, false, false, false, false, false, false, false] rfl rfl (take_ofW HT_.out HW_.out (by kernel_rfl)) (fun _ _ _ h => h) (Or.inl ⟨by rfl, ?_⟩) hHeld ?_ ?_
      rotate_left
      ·
       rintro w' ⟨s0, s1, s2, s3, s4, s5, s6, s7, s8, s9, s10, s11, s12, s13, s14⟩
       go_simp
       with_reducible rfl
      rotate_left
      ·
       simp only [Act.put, List.setIfInBounds_toArray, List.set_cons_zero, List.set_cons_succ, i64_w, i32_w]
       rfl
      refine take_ (i := 10) (N := some 37) (v := ?_) (a' := ?_) #[true, true, true, true, true, true, true, true, true, true, true, true, true, true, true, false, false, false, false, false, false, false] rfl rfl (take_ofW HT_.out HW_.out (by kernel_rfl)) (fun _ _ _ h => h) (Or.inl ⟨by rfl, ?_⟩) hHeld ?_ ?_
      rotate_left
      ·
       rintro w' ⟨s0, s1, s2, s3, s4, s5, s6, s7, s8, s9, s10, s11, s12, s13, s14⟩
       go_simp
       with_reducible rfl
      rotate_left
      ·
       simp only [Act.put, List.setIfInBounds_toArray, List.set_cons_zero, List.set_cons_succ, i64_w, i32_w]
       rfl
      refine take_ (i := 15) (N := some 42) (v := ?_) (a' := ?_) #[true, true, true, true, true, true, true, true, true, true, true, true, true, true, true, true, false, false, false, false, false, false] rfl rfl (take_ofW HT_.out HW_.out (by kernel_rfl)) (fun _ _ _ h => h) (Or.inl ⟨by rfl, ?_⟩) hHeld ?_ ?_
      rotate_left
      ·
       rintro w' ⟨s0, s1, s2, s3, s4, s5, s6, s7, s8, s9, s10, s11, s12, s13, s14⟩
       go_simp
       with_reducible rfl
      rotate_left
      ·
       simp only [Act.put, List.setIfInBounds_toArray, List.set_cons_zero, List.set_cons_succ, i64_w, i32_w]
       rfl
      refine one_ (i := 16) (N := some 43) #[true, true, true, true, true, true, true, true, true, true, true, true, true, true, true, true, true, false, false, false, false, false] rfl rfl (one_of HT_.out (by kernel_rfl)) (by decide) (fun K hK => ?_)
      refine goes_ Try.func54 (by kernel_rfl) rfl #[.agg #[.int .i64 x890000_1, .int .i64 x890001_1, .slice Ao23 x890002_1.length co23], .int .i64 ((rd_T23 t890 x7_1).f1), .string ((rd_T23 t890 x7_1).f2), .string ((rd_T23 t890 x7_1).f3)] (by rfl) rfl rfl (by (try simp only [List.map_toArray, List.map_cons, List.map_nil]); first | done | rfl | (simp only [List.length_drop, List.length_take]; rfl)) ?_
      with_reducible refine (brokerref32_Append.calls k1 x890000_1 x890001_1 _ _ x890002_1 ((rd_T23 t890 x7_1).f1) ((rd_T23 t890 x7_1).f2) ((rd_T23 t890 x7_1).f3) t897 t898 t899 t902 t903 _ ?side1 ?side2 A20.out).mono ?_
      (case side1 => exact Hlp.cp (Kd.R_reads' HO_890002.out).2.2)
      (case side2 => exact (Kd.R_reads' HO_890002.out).2.1)
      rintro e w24 ⟨v900, rfl, ho0, hb⟩
      have HS3_ := (hb.cell (World.block_lt_of_cell? _ _ (hHeld.2.2.2.1))).trans (hHeld.2.2.2.1)
      have HS4_ := (hb.cell (World.block_lt_of_cell? _ _ (hHeld.2.2.2.2.1))).trans (hHeld.2.2.2.2.1)
      have HS5_ := (hb.cell (World.block_lt_of_cell? _ _ (hHeld.2.2.2.2.2.1))).trans (hHeld.2.2.2.2.2.1)
      have HS6_ := (hb.cell (World.block_lt_of_cell? _ _ (hHeld.2.2.2.2.2.2.1))).trans (hHeld.2.2.2.2.2.2.1)
      have HS7_ := (hb.cell (World.block_lt_of_cell? _ _ (hHeld.2.2.2.2.2.2.2.1))).trans (hHeld.2.2.2.2.2.2.2.1)
      have HS8_ := (hb.cell (World.block_lt_of_cell? _ _ (hHeld.2.2.2.2.2.2.2.2.1))).trans (hHeld.2.2.2.2.2.2.2.2.1)
      have HS9_ := (hb.cell (World.block_lt_of_cell? _ _ (hHeld.2.2.2.2.2.2.2.2.2.1))).trans (hHeld.2.2.2.2.2.2.2.2.2.1)
      have HS10_ := (hb.cell (World.block_lt_of_cell? _ _ (hHeld.2.2.2.2.2.2.2.2.2.2.1))).trans (hHeld.2.2.2.2.2.2.2.2.2.2.1)
      have HS11_ := (hb.cell (World.block_lt_of_cell? _ _ (hHeld.2.2.2.2.2.2.2.2.2.2.2.1))).trans (hHeld.2.2.2.2.2.2.2.2.2.2.2.1)
      have HS12_ := (hb.cell (World.block_lt_of_cell? _ _ (hHeld.2.2.2.2.2.2.2.2.2.2.2.2.1))).trans (hHeld.2.2.2.2.2.2.2.2.2.2.2.2.1)
      have HS13_ := (hb.cell (World.block_lt_of_cell? _ _ (hHeld.2.2.2.2.2.2.2.2.2.2.2.2.2.1))).trans (hHeld.2.2.2.2.2.2.2.2.2.2.2.2.2.1)
      have HS14_ := (hb.cell (World.block_lt_of_cell? _ _ (hHeld.2.2.2.2.2.2.2.2.2.2.2.2.2.2))).trans (hHeld.2.2.2.2.2.2.2.2.2.2.2.2.2.2)
      refine ⟨_, rfl, ?_⟩
      replace HO_6 := Aside0.mk (Kd.R_below (Hlp.rp HO_6.out) hb)
      have HO901 := Aside0.mk (Kd.R_lower (Kd.R_new' ho0 (Kd.R_lt (Hlp.rp HO_890002.out))) (below_size (Hlp.bl HB.out)))
      replace HO_890002 := Aside0.mk (Kd.R_elder' (Hlp.rp HO_890002.out) (Kd.R_base ho0) hb)
      replace BK882 := Aside0.mk (blk_below (g := gb882) (o := .cells #[.int .i64 a0_0, .int .i64 a0_1, .slice A0_2 l0_2.length c0_2] 43 (0, 0)) (Hlp.bp BK882.out) hb)
      replace BK883 := Aside0.mk (blk_below (g := gb883) (o := .cells #[.int .i64 0, .int .i64 0, .slice none 0 0] 43 (0, 0)) (Hlp.bp BK883.out) hb)
      replace BK889 := Aside0.mk (blk_below (g := gb889) (o := .cells #[.int .i64 x890000_1, .int .i64 x890001_1, .slice Ao23 x890002_1.length co23] 43 (0, 0)) (Hlp.bp BK889.out) hb)
      replace HB := Aside0.mk (below_step (Hlp.bl HB.out) hb)
      (try clear hb)
      (try clear hb2)
      (try clear hk)
      (try clear hi)
      (try clear ho0)
      obtain ⟨Ao27, co27, eo27⟩ := Kd.R_slice HO901.out
      (first | subst eo27 | (injection eo27 with f1_ f2_ f3_; have f4_ := f1_.symm; have f5_ := f3_.symm; clear f1_ f2_ f3_; subst f4_; subst f5_))
      refine hK.out _ _ ⟨(blk_cell BK889.out 0).trans rfl, (blk_cell BK889.out 1).trans rfl, (blk_cell BK889.out 2).trans rfl, HS3_, HS4_, HS5_, HS6_, HS7_, HS8_, HS9_, HS10_, HS11_, HS12_, HS13_, HS14_⟩ (fun hHeld => ?_)
      clear hK K
      refine norm_ (a' := ?_) ?_ ?_
      rotate_left
      ·
       show Act.put _ (some 43) _ = _
       simp only [Act.put, List.setIfInBounds_toArray, List.set_cons_zero, List.set_cons_succ, i64_w, i32_w]
       rfl
      refine pure_ (i := 17) (N := some 26) (v := ?_) (a' := ?_) #[true, true, true, true, true, true, true, true, true, true, true, true, true, true, true, true, true, true, false, false, false, false] rfl rfl (any_of HT_.out (by kernel_rfl)) (fun _ _ _ h => h) (Or.inl ⟨by rfl, ?_⟩) ?_ ?_
      rotate_left
      ·
       intro w'
       go_simp
       with_reducible rfl
      rotate_left
      ·
       simp only [Act.put, List.setIfInBounds_toArray, List.set_cons_zero, List.set_cons_succ, i64_w, i32_w]
       rfl
      refine pure_ (i := 18) (N := some 44) (v := ?_) (a' := ?_) #[true, true, true, true, true, true, true, true, true, true, true, true, true, true, true, true, true, true, true, false, false, false] rfl rfl (any_of HT_.out (by kernel_rfl)) (fun _ _ _ h => h) (Or.inl ⟨by rfl, ?_⟩) ?_ ?_
      rotate_left
      ·
       intro w'
       go_simp
       with_reducible rfl
      rotate_left
      ·
       simp only [Act.put, List.setIfInBounds_toArray, List.set_cons_zero, List.set_cons_succ, i64_w, i32_w]
       rfl
      refine pure_ (i := 19) (N := some 45) (v := ?_) (a' := ?_) #[true, true, true, true, true, true, true, true, true, true, true, true, true, true, true, true, true, true, true, true, false, false] rfl rfl (any_of HT_.out (by kernel_rfl)) (fun _ _ _ h => h) (Or.inl ⟨by rfl, ?_⟩) ?_ ?_
      rotate_left
      ·
       intro w'
       go_simp
       with_reducible rfl
      rotate_left
      ·
       simp only [Act.put, List.setIfInBounds_toArray, List.set_cons_zero, List.set_cons_succ, i64_w, i32_w]
       rfl
      refine pure_ (i := 20) (N := some 46) (v := ?_) (a' := ?_) #[true, true, true, true, true, true, true, true, true, true, true, true, true, true, true, true, true, true, true, true, true, false] rfl rfl (any_of HT_.out (by kernel_rfl)) (fun _ _ _ h => h) (Or.inl ⟨by rfl, ?_⟩) ?_ ?_
      rotate_left
      ·
       intro w'
       go_simp
       with_reducible rfl
      rotate_left
      ·
       simp only [Act.put, List.setIfInBounds_toArray, List.set_cons_zero, List.set_cons_succ, i64_w, i32_w]
       rfl
      refine last_ (i := 21) (N := none) #[true, true, true, true, true, true, true, true, true, true, true, true, true, true, true, true, true, true, true, true, true, true] rfl rfl (one_of HT_.out (by kernel_rfl)) (by decide) (fun K hK => ?_)
      have hs25 : w24.cell? ⟨gb889, 0, none⟩ = some (.int .i64 x890000_1) := (blk_cell BK889.out 0).trans rfl
      have hfs25 := blk_frozen BK889.out 0
      have hns25_0 := NB882_889.out
      have hns25_1 := NB883_889.out
      have hms25_0 := NB889_882.out
      have hms25_1 := NB889_883.out
      have hs26 : w24.cell? ⟨gb889, 1, none⟩ = some (.int .i64 x890001_1) := (blk_cell BK889.out 1).trans rfl
      have hfs26 := blk_frozen BK889.out 1
      have hns26_0 := NB882_889.out
      have hns26_1 := NB883_889.out
      have hms26_0 := NB889_882.out
      have hms26_1 := NB889_883.out
      have hs28 : w24.cell? ⟨gb889, 2, none⟩ = some (.slice Ao23 x890002_1.length co23) := (blk_cell BK889.out 2).trans rfl
      have hfs28 := blk_frozen BK889.out 2
      have hns28_0 := NB882_889.out
      have hns28_1 := NB883_889.out
      have hms28_0 := NB889_882.out
      have hms28_1 := NB889_883.out
      refine skip_ (w1 := ?_) (by rfl) rfl ?_ ?_
      rotate_left
      ·
       go_simp
       rfl
      refine hK.out _ _ ?_
      clear hK K
      refine done_ (done_of HT_.out (by kernel_rfl)) ?_
      try go_wp2
      go_roundg k1
      case measure => have := HK1.out; omega
      case rel => exact ⟨(wrap64 (x7_1 + 1)), (t897), (t898), (t899), (.slice Ao27 t899.length co27), (by first | rfl | (simp; done) | (simp [*]; done)), H', ⟨by have := HK1.out; omega⟩, ⟨by (with_reducible repeat (first | apply Kd.R_alloc | apply Kd.R_drewN | apply Kd.R_drew)); exact Kd.R_mono (Kd.R_far (p := ⟨gb889, 2, none⟩) (Kd.R_far (p := ⟨gb889, 1, none⟩) (Kd.R_far (p := ⟨gb889, 0, none⟩) (Kd.R_types HO_6.out BK889.out (by decide)) (fun _ hk => hk.2) (.int .i64 t897)) (fun _ hk => hk.2) (.int .i64 t898)) (fun _ hk => hk.2) (.slice Ao27 t899.length co27)) (fun _ hk => trivial)⟩, ⟨by (with_reducible repeat (first | apply Kd.R_alloc | apply Kd.R_drewN | apply Kd.R_drew)); exact Kd.R_mono (Kd.R_far (p := ⟨gb889, 2, none⟩) (Kd.R_far (p := ⟨gb889, 1, none⟩) (Kd.R_far (p := ⟨gb889, 0, none⟩) (Kd.R_types HO901.out BK889.out (by decide)) (fun _ hk => hk.2) (.int .i64 t897)) (fun _ hk => hk.2) (.int .i64 t898)) (fun _ hk => hk.2) (.slice Ao27 t899.length co27)) (fun _ hk => trivial)⟩, ⟨by refine Hlp.bp (blk_far ?_ NB882_889.out _); refine Hlp.bp (blk_far ?_ NB882_889.out _); refine Hlp.bp (blk_far ?_ NB882_889.out _); exact Hlp.bp BK882.out⟩, ⟨by refine Hlp.bp (blk_far ?_ NB883_889.out _); refine Hlp.bp (blk_far ?_ NB883_889.out _); refine Hlp.bp (blk_far ?_ NB883_889.out _); exact Hlp.bp BK883.out⟩, ⟨by refine Hlp.bp (blk_put (cs := #[.int .i64 t897, .int .i64 t898, .slice Ao23 x890002_1.length co23]) ?_ 2 _ rfl); refine Hlp.bp (blk_put (cs := #[.int .i64 t897, .int .i64 x890001_1, .slice Ao23 x890002_1.length co23]) ?_ 1 _ rfl); refine Hlp.bp (blk_put (cs := #[.int .i64 x890000_1, .int .i64 x890001_1, .slice Ao23 x890002_1.length co23]) ?_ 0 _ rfl); exact Hlp.bp BK889.out⟩, ⟨Hlp.bl HB.out⟩⟩
     ·
      rw [if_neg c19] at H
      have c19b0 : decide (((rd_T23 t890 x7_1).f0) < a1) = false := decide_eq_false c19
      clear c19
      have H' := Aside0.mk H
      clear H
      obtain ⟨Ao29, co29, eo29⟩ := Kd.R_slice HO_6.out
      subst eo29
      have p893 : 0 ≤ (x7_1 : Int) := of_decide_eq_true (by first | (with_reducible assumption) | assumption)
      have q893 : x7_1 < (t890.length : Int) := of_decide_eq_true (by first | (with_reducible assumption) | assumption)
      obtain ⟨ad893, e893, hx893_0, hx893_1, hx893_2, hx893_3⟩ := at_T23 (Kd.R_reads' HO_6.out).2.2 x7_1 p893 q893
      cases e893
      replace p893 := eq_true p893
      replace q893 := eq_true q893
      go_wp2
      go_roundg k1
      case measure => have := HK1.out; omega
      case rel => exact ⟨(wrap64 (x7_1 + 1)), (x890000_1), (x890001_1), (x890002_1), (u890002), (by first | rfl | (simp; done) | (simp [*]; done)), H', ⟨by have := HK1.out; omega⟩, ⟨by (with_reducible repeat (first | apply Kd.R_alloc | apply Kd.R_drewN | apply Kd.R_drew)); exact HO_6.out⟩, ⟨by (with_reducible repeat (first | apply Kd.R_alloc | apply Kd.R_drewN | apply Kd.R_drew)); exact HO_890002.out⟩, ⟨by exact Hlp.bp BK882.out⟩, ⟨by exact Hlp.bp BK883.out⟩, ⟨by exact Hlp.bp BK889.out⟩, ⟨Hlp.bl HB.out⟩⟩
    ·
     rw [if_neg c18] at H
     exact absurd H (by simp)
   ·
    rw [if_neg c17] at H
    have c17b0 : decide (x7_1 < (t890.length : Int)) = false := decide_eq_false c17
    clear c17
    simp only [Option.some.injEq, Prod.mk.injEq] at H
    obtain ⟨rfl, rfl, rfl⟩ := H
    obtain ⟨Ao30, co30, eo30⟩ := Kd.R_slice HO_6.out
    subst eo30
    have hnb31 := NB889_882.out
    have hnc31 := NB882_889.out
    have hnb32 := NB889_883.out
    have hnc32 := NB883_889.out
    have hcz33_0 : wr.cell? ⟨gb889, 0, none⟩ = some (.int .i64 x890000_1) := (blk_cell BK889.out 0).trans rfl
    have hcz33_1 : wr.cell? ⟨gb889, 1, none⟩ = some (.int .i64 x890001_1) := (blk_cell BK889.out 1).trans rfl
    have hcz33_2 : wr.cell? ⟨gb889, 2, none⟩ = some (u890002) := (blk_cell BK889.out 2).trans rfl
    have hfz33_0 := blk_frozen BK889.out 0
    have hfz33_1 := blk_frozen BK889.out 1
    have hfz33_2 := blk_frozen BK889.out 2
    have hnb34 := NB883_882.out
    have hnc34 := NB882_883.out
    have hcz35_0 : wr.cell? ⟨gb883, 0, none⟩ = some (.int .i64 0) := (blk_cell BK883.out 0).trans rfl
    have hcz35_1 : wr.cell? ⟨gb883, 1, none⟩ = some (.int .i64 0) := (blk_cell BK883.out 1).trans rfl
    have hcz35_2 : wr.cell? ⟨gb883, 2, none⟩ = some (.slice none 0 0) := (blk_cell BK883.out 2).trans rfl
    have hfz35_0 := blk_frozen BK883.out 0
    have hfz35_1 := blk_frozen BK883.out 1
    have hfz35_2 := blk_frozen BK883.out 2
    obtain ⟨Ao36, co36, eo36⟩ := Kd.R_slice HO_890002.out
    subst eo36
    go_wp2
    refine bodyPost_ret (results_cell_row rfl _ _ gb883 43 #[.int .i64 x890000_1, .int .i64 x890001_1, .slice Ao36 x890002_1.length co36] (0, 0) _ rfl (by refine Hlp.bp (blk_put (cs := #[.int .i64 x890000_1, .int .i64 x890001_1, .slice none 0 0]) ?_ 2 _ rfl); refine Hlp.bp (blk_put (cs := #[.int .i64 x890000_1, .int .i64 0, .slice none 0 0]) ?_ 1 _ rfl); refine Hlp.bp (blk_put (cs := #[.int .i64 0, .int .i64 0, .slice none 0 0]) ?_ 0 _ rfl); exact Hlp.bp BK883.out) Try.underlying43 rfl (by kernel_rfl)) rfl ?_
    exact ⟨_, by first | rfl | (simp [errW_none, errW_some] <;> rfl) | (simp [*, errW_none, errW_some] <;> rfl), by (with_reducible repeat (first | apply Kd.R_alloc | apply Kd.R_drewN | apply Kd.R_drew)); exact Kd.R_mono (Kd.R_far (p := ⟨gb883, 2, none⟩) (Kd.R_far (p := ⟨gb883, 1, none⟩) (Kd.R_far (p := ⟨gb883, 0, none⟩) (Kd.R_types HO_890002.out BK883.out (by decide)) (fun _ hk => hk.2) (.int .i64 x890000_1)) (fun _ hk => hk.2) (.int .i64 x890001_1)) (fun _ hk => hk.2) (.slice Ao36 x890002_1.length co36)) (fun _ hk => trivial), Hlp.bl HB.out⟩

end Go.Proofs.Ytkkelbakadbbhaa.J
