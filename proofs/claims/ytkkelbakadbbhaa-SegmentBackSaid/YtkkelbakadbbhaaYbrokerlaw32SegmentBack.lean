/- Lean functions that compute what the Go functions named below compute; each theorem '.calls': if its Lean function has an answer, the Go function returns it. -/
import Derived.Test.YtkkelbakadbbhaaYx0
import Derived.Test.YtkkelbakadbbhaaH
import Derived.Test.YtkkelbakadbbhaaYbrokerlaw32awake
import Derived.Test.YtkkelbakadbbhaaYpack0
import Derived.Test.YtkkelbakadbbhaaYrecord0
import Derived.Test.YtkkelbakadbbhaaYsegment0
namespace Go.Proofs.Ytkkelbakadbbhaa.J
open Go.RowKit Go.Proofs.YtkkelbakadbbhaaW.PrintWords Go.Proofs.YtkkelbakadbbhaaW.PrintLast Go.Proofs.YtkkelbakadbbhaaW.PrintMore
attribute [local go_sem] max2_int min2_int max_two min_two max_three min_three max_four min_four   -- for this text's walks alone
set_option linter.unusedVariables false
set_option linter.unusedSimpArgs false

/-! ### brokerlaw32_SegmentBack: function 18 -/
mutual
def brokerlaw32_SegmentBack.j0 : Nat → Int → List (S23) → Bool → Option (Bool)
 | 0, _, _, _ => none
 | k + 1, x0, x1, x21 => if x21 = true then ((brokerlaw32_awake.f k).bind fun t326 => (some t326)) else ((segment_New.f x0).bind fun bt327 => (brokerlaw32_SegmentBack.l0 k x0 x1 ([] : List (S23)) 0 bt327.1 bt327.2.1 bt327.2.2))
def brokerlaw32_SegmentBack.l0 : Nat → Int → List (S23) → List (S23) → Int → Int → Int → List Int → Option (Bool)
 | 0, _, _, _, _, _, _, _ => none
 | k + 1, x0, x1, x6, x7, x333000, x333001, x333002 => if x7 < (x1.length : Int) then (if 0 ≤ x7 then ((segment_Append.f k x333000 x333001 x333002 ((rd_T23 x1 x7).f1) ((rd_T23 x1 x7).f2) ((rd_T23 x1 x7).f3)).bind fun bt336 => (if bt336.2.2.2.2 = 0 then (if bt336.2.2.2.1 = (wrap64 (x0 + (x6.length : Int))) then (if bt336.2.1 = (wrap64 (bt336.2.2.2.1 + 1)) then (if bt336.1 = x0 then (if x6.length < 2932031007402 then (brokerlaw32_SegmentBack.l0 k x0 x1 (x6 ++ [(⟨bt336.2.2.2.1, (rd_T23 x1 x7).f1, (rd_T23 x1 x7).f2, (rd_T23 x1 x7).f3⟩ : S23)]) (wrap64 (x7 + 1)) bt336.1 bt336.2.1 bt336.2.2.1) else (none)) else (none)) else (none)) else (none)) else (brokerlaw32_SegmentBack.l0 k x0 x1 x6 (wrap64 (x7 + 1)) x333000 x333001 x333002))) else (none)) else ((segment_Check.f k x333000 x333001 x333002).bind fun t350 => (if t350 = 0 then ((segment_Records.f k x333000 x333001 x333002).bind fun t351 => ((brokerref31_Same.f k t351 x6).bind fun t354 => (if t354 = true then ((brokerlaw32_awake.f k).bind fun t355 => (some t355)) else (none)))) else (none)))
end
def brokerlaw32_SegmentBack.f (k : Nat) (a0 : Int) (l1 : List (S23)) : Option (Bool) := if a0 < 0 then (brokerlaw32_SegmentBack.j0 k a0 l1 true) else (if a0 > 1099511627760 then (brokerlaw32_SegmentBack.j0 k a0 l1 true) else ((brokerlaw32_few.f k l1).bind fun t325 => (brokerlaw32_SegmentBack.j0 k a0 l1 (!t325))))
theorem brokerlaw32_SegmentBack.mono_l : ∀ k, (∀ y0 y1 y2, LeO (brokerlaw32_SegmentBack.j0 k y0 y1 y2) (brokerlaw32_SegmentBack.j0 (k + 1) y0 y1 y2)) ∧ (∀ y0 y1 y2 y3 y4 y5 y6, LeO (brokerlaw32_SegmentBack.l0 k y0 y1 y2 y3 y4 y5 y6) (brokerlaw32_SegmentBack.l0 (k + 1) y0 y1 y2 y3 y4 y5 y6))
 | 0 => ⟨fun _ _ _ r h => by simp [brokerlaw32_SegmentBack.j0] at h, fun _ _ _ _ _ _ _ r h => by simp [brokerlaw32_SegmentBack.l0] at h⟩
 | k + 1 => by
  obtain ⟨ih0, ih1⟩ := brokerlaw32_SegmentBack.mono_l k
  refine ⟨?_, ?_⟩
  ·
   intro y0 y1 y2
   unfold brokerlaw32_SegmentBack.j0
   repeat' first
   | (with_reducible exact ih0 _ _ _)
   | (with_reducible exact ih1 _ _ _ _ _ _ _)
   | (with_reducible exact brokerlaw32_awake.mono _)
   | (with_reducible exact brokerlaw32_few.mono _ _)
   | (with_reducible exact brokerref31_Same.mono _ _ _)
   | (with_reducible exact segment_Append.mono _ _ _ _ _ _ _)
   | (with_reducible exact segment_Check.mono _ _ _ _)
   | (with_reducible exact segment_Records.mono _ _ _ _)
   | (with_reducible exact LeO.refl _)
   | (with_reducible exact LeO.none _)
   | (with_reducible refine LeO.ite ?_ ?_)
   | (with_reducible refine LeO.bind ?_ (fun _ => ?_))
   | exact ih0 _ _ _
   | exact ih1 _ _ _ _ _ _ _
   | exact brokerlaw32_awake.mono _
   | exact brokerlaw32_few.mono _ _
   | exact brokerref31_Same.mono _ _ _
   | exact segment_Append.mono _ _ _ _ _ _ _
   | exact segment_Check.mono _ _ _ _
   | exact segment_Records.mono _ _ _ _
   | exact LeO.none _
   | refine LeO.ite ?_ ?_
   | refine LeO.bind ?_ (fun _ => ?_)
  ·
   intro y0 y1 y2 y3 y4 y5 y6
   unfold brokerlaw32_SegmentBack.l0
   repeat' first
   | (with_reducible exact ih0 _ _ _)
   | (with_reducible exact ih1 _ _ _ _ _ _ _)
   | (with_reducible exact brokerlaw32_awake.mono _)
   | (with_reducible exact brokerlaw32_few.mono _ _)
   | (with_reducible exact brokerref31_Same.mono _ _ _)
   | (with_reducible exact segment_Append.mono _ _ _ _ _ _ _)
   | (with_reducible exact segment_Check.mono _ _ _ _)
   | (with_reducible exact segment_Records.mono _ _ _ _)
   | (with_reducible exact LeO.refl _)
   | (with_reducible exact LeO.none _)
   | (with_reducible refine LeO.ite ?_ ?_)
   | (with_reducible refine LeO.bind ?_ (fun _ => ?_))
   | exact ih0 _ _ _
   | exact ih1 _ _ _ _ _ _ _
   | exact brokerlaw32_awake.mono _
   | exact brokerlaw32_few.mono _ _
   | exact brokerref31_Same.mono _ _ _
   | exact segment_Append.mono _ _ _ _ _ _ _
   | exact segment_Check.mono _ _ _ _
   | exact segment_Records.mono _ _ _ _
   | exact LeO.none _
   | refine LeO.ite ?_ ?_
   | refine LeO.bind ?_ (fun _ => ?_)
theorem brokerlaw32_SegmentBack.mono : ∀ a0 a1 k, LeO (brokerlaw32_SegmentBack.f k a0 a1) (brokerlaw32_SegmentBack.f (k + 1) a0 a1) := by
 intro a0 a1 k
 obtain ⟨ih0, ih1⟩ := brokerlaw32_SegmentBack.mono_l k
 unfold brokerlaw32_SegmentBack.f
 repeat' first
  | (with_reducible exact ih0 _ _ _)
  | (with_reducible exact ih1 _ _ _ _ _ _ _)
  | (with_reducible exact brokerlaw32_awake.mono _)
  | (with_reducible exact brokerlaw32_few.mono _ _)
  | (with_reducible exact brokerref31_Same.mono _ _ _)
  | (with_reducible exact segment_Append.mono _ _ _ _ _ _ _)
  | (with_reducible exact segment_Check.mono _ _ _ _)
  | (with_reducible exact segment_Records.mono _ _ _ _)
  | (with_reducible exact LeO.refl _)
  | (with_reducible exact LeO.none _)
  | (with_reducible refine LeO.ite ?_ ?_)
  | (with_reducible refine LeO.bind ?_ (fun _ => ?_))
  | exact ih0 _ _ _
  | exact ih1 _ _ _ _ _ _ _
  | exact brokerlaw32_awake.mono _
  | exact brokerlaw32_few.mono _ _
  | exact brokerref31_Same.mono _ _ _
  | exact segment_Append.mono _ _ _ _ _ _ _
  | exact segment_Check.mono _ _ _ _
  | exact segment_Records.mono _ _ _ _
  | exact LeO.none _
  | refine LeO.ite ?_ ?_
  | refine LeO.bind ?_ (fun _ => ?_)
def brokerlaw32_SegmentBack.T8 : Bool × List (List Nat × List Nat) := (true, [([], []), ([], []), ([], []), ([1, 2], [1, 2]), ([3], [3]), ([4], [4]), ([], []), ([], []), ([6, 7], [6, 7]), ([8], [8]), ([9], [9]), ([], []), ([], []), ([11, 12], [11, 12]), ([13], [13]), ([14], [14]), ([0, 5, 10, 15], [0, 5, 10, 15]), ([16], [16]), ([17], [17]), ([17], [17]), ([17], [17]), ([], []), ([21, 18, 16, 0, 1, 2, 3, 4, 5, 6, 7, 8, 9, 10, 11, 12, 13, 14, 15, 16, 17, 18, 21], [18, 21]), ([19, 22, 0, 1, 2, 3, 4, 5, 6, 7, 8, 9, 10, 11, 12, 13, 14, 15, 16, 17, 18, 19, 21, 22], [19]), ([20, 23, 0, 1, 2, 3, 4, 5, 6, 7, 8, 9, 10, 11, 12, 13, 14, 15, 16, 17, 18, 19, 20, 21, 22, 23], [20])])
def brokerlaw32_SegmentBack.B8 : List Nat := [0, 0, 0, 6, 14, 30, 0, 0, 192, 448, 960, 0, 0, 6144, 14336, 30720, 65535, 131071, 262143, 262143, 262143, 0, 2621439, 7340031, 16777215]
theorem brokerlaw32_SegmentBack.tab8 : rtab .any (opsOf Try.f18 8) = brokerlaw32_SegmentBack.T8 := by kernel_rfl
theorem brokerlaw32_SegmentBack.bits8 : waitsOk brokerlaw32_SegmentBack.T8.2 brokerlaw32_SegmentBack.B8 = true := by kernel_rfl
def brokerlaw32_SegmentBack.T12 : Bool × List (List Nat × List Nat) := (true, [([], []), ([], []), ([], []), ([], []), ([2, 3], [2, 3]), ([4], [4]), ([5], [5]), ([], []), ([], []), ([7, 8], [7, 8]), ([9], [9]), ([10], [10]), ([], []), ([], []), ([12, 13], [12, 13]), ([14], [14]), ([15], [15]), ([1, 6, 11, 16], [1, 6, 11, 16]), ([17], [17]), ([0, 18], [0, 18]), ([19, 19, 0, 1, 2, 3, 4, 5, 6, 7, 8, 9, 10, 11, 12, 13, 14, 15, 16, 17, 18, 19], [0, 19])])
def brokerlaw32_SegmentBack.B12 : List Nat := [0, 0, 0, 0, 12, 28, 60, 0, 0, 384, 896, 1920, 0, 0, 12288, 28672, 61440, 131070, 262142, 524287, 1048575]
theorem brokerlaw32_SegmentBack.tab12 : rtab .any (opsOf Try.f18 12) = brokerlaw32_SegmentBack.T12 := by kernel_rfl
theorem brokerlaw32_SegmentBack.bits12 : waitsOk brokerlaw32_SegmentBack.T12.2 brokerlaw32_SegmentBack.B12 = true := by kernel_rfl
set_option maxHeartbeats 8000000 in
set_option maxRecDepth 100000 in
theorem brokerlaw32_SegmentBack.calls (k : Nat) (a0 : Int) (A1 : Option Addr) (c1 : Nat) (l1 : List (S23)) (r : Bool) (w : World) (hr1 : Kd.C k23 w A1 l1.length l1) (hc1 : l1.length ≤ c1) (h : brokerlaw32_SegmentBack.f k a0 l1 = some r) :
 Calls Try.prog 18 #[.int .i64 a0, .slice A1 l1.length c1] w fun e w' => e = .returned (.bool r) ∧ Below w.heap.size w w' := by
 have hu43 := Try.underlying43
 have hu23 := Try.underlying23
 have HR1 := Aside0.mk hr1
 have HC1 := Aside0.mk hc1
 clear hr1 hc1
 have HB := Aside0.mk (Below.refl w.heap.size w)
 have H : (if a0 < 0 then (brokerlaw32_SegmentBack.j0 k a0 l1 true) else (if a0 > 1099511627760 then (brokerlaw32_SegmentBack.j0 k a0 l1 true) else ((brokerlaw32_few.f k l1).bind fun t325 => (brokerlaw32_SegmentBack.j0 k a0 l1 (!t325))))) = some r := h
 clear h
 have HC3 := Aside0.mk H
 clear H
 go_enter Try.func18, Try.ntmps18
 go_upto_region 1 with (fail)
 go_cut [21] (fun v21 wc => ∃ (kq : Nat) (x21_2 : Bool), v21 = .bool x21_2 ∧ Aside0 (brokerlaw32_SegmentBack.j0 kq a0 l1 x21_2 = some r) ∧ Aside0 (kq ≤ k) ∧ Aside0 (Below w.heap.size w wc))
 case first =>
  have H := HC3.out
  clear HC3
  by_cases c4 : a0 < 0
  ·
   rw [if_pos c4] at H
   have c4b0 : decide (a0 < 0) = true := decide_eq_true c4
   clear c4
   (first | rw [c4b0] | (simp only [i64_w, i32_w]; rw [c4b0]) | skip)
   have H' := Aside0.mk H
   clear H
   go_wp2
   go_meet
   case rel => exact ⟨_, (true), (by first | rfl | (simp; done) | (simp [*]; done)), H', ⟨by first | omega | exact Nat.le_refl _⟩, ⟨Hlp.bl HB.out⟩⟩
  ·
   rw [if_neg c4] at H
   have c4b0 : decide (a0 < 0) = false := decide_eq_false c4
   clear c4
   (first | rw [c4b0] | (simp only [i64_w, i32_w]; rw [c4b0]) | skip)
   by_cases c5 : a0 > 1099511627760
   ·
    rw [if_pos c5] at H
    have c5b0 : decide (1099511627760 < a0) = true := decide_eq_true c5
    clear c5
    have H' := Aside0.mk H
    clear H
    go_wp2
    go_meet
    case rel => exact ⟨_, (true), (by first | rfl | (simp; done) | (simp [*]; done)), H', ⟨by first | omega | exact Nat.le_refl _⟩, ⟨Hlp.bl HB.out⟩⟩
   ·
    rw [if_neg c5] at H
    have c5b0 : decide (1099511627760 < a0) = false := decide_eq_false c5
    clear c5
    replace H := Option.bind_eq_some_iff.mp H
    obtain ⟨t325, A60, H⟩ := H
    replace H : (brokerlaw32_SegmentBack.j0 k a0 l1 (!t325)) = some r := H
    have A6 := Aside0.mk A60
    clear A60
    have H' := Aside0.mk H
    clear H
    go_wp2_with (first | (go_at_call 61; (with_reducible refine (brokerlaw32_few.calls k _ _ l1 t325 _ ?side1 ?side2 A6.out).mono ?_); (case side1 => exact Hlp.cp (Kd.C_below HR1.out HB.out)); (case side2 => exact HC1.out); rintro e w' ⟨rfl, ⟨nd, rfl⟩⟩))
    go_meet
    case rel => exact ⟨_, (!t325), (by first | rfl | (simp; done) | (simp [*]; done)), H', ⟨by first | omega | exact Nat.le_refl _⟩, ⟨Hlp.bl HB.out⟩⟩
 case rest =>
  clear HC3
  try clear c1
  try clear p2
  try clear c4
  try clear c4b0
  try clear c5
  try clear c5b0
  obtain ⟨kq, x21_2, rfl, HA, HJ2, HB⟩ := hcut
  cases kq with
  | zero => exact absurd HA.out (by simp [brokerlaw32_SegmentBack.j0])
  | succ kj2 =>
   have H := HA.out
   clear HA
   simp only [brokerlaw32_SegmentBack.j0] at H
   by_cases c7 : x21_2 = true
   ·
    subst c7
    have H1 : ((brokerlaw32_awake.f kj2).bind fun t326 => (some t326)) = some r := by rw [if_pos rfl] at H; exact H
    clear H
    have H := H1
    clear H1
    replace H := Option.bind_eq_some_iff.mp H
    obtain ⟨t326, A80, H⟩ := H
    replace H : (some t326) = some r := H
    have A8 := Aside0.mk A80
    clear A80
    obtain rfl := Option.some.inj H
    go_wp2_with (first | ((with_reducible refine gate_callee (f := 47) rfl ?_); refine Hlp.gl (some 22) Try.func47 #[] ?_; (with_reducible refine (brokerlaw32_awake.calls kj2  t326 _ A8.out).mono ?_); rintro e w9 ⟨rfl, hb⟩; refine ⟨_, rfl, ?_⟩; replace HB := Aside0.mk (below_step (Hlp.bl HB.out) hb); (try clear hb); (try clear hb2); (try clear hk); (try clear hi)))
    go_ret
    exact ⟨by first | rfl | (simp [errW_none, errW_some] <;> rfl) | (simp [*, errW_none, errW_some] <;> rfl), Hlp.bl HB.out⟩
   ·
    replace c7 := Bool.eq_false_iff.mpr c7
    subst c7
    have H1 : ((segment_New.f a0).bind fun bt327 => (brokerlaw32_SegmentBack.l0 kj2 a0 l1 ([] : List (S23)) 0 bt327.1 bt327.2.1 bt327.2.2)) = some r := by rw [if_neg (show ¬ (false = true) by decide)] at H; exact H
    clear H
    have H := H1
    clear H1
    replace H := Option.bind_eq_some_iff.mp H
    obtain ⟨⟨t327, t328, t329⟩, A100, H⟩ := H
    replace H : (brokerlaw32_SegmentBack.l0 kj2 a0 l1 ([] : List (S23)) 0 t327 t328 t329) = some r := H
    have A10 := Aside0.mk A100
    clear A100
    have H' := Aside0.mk H
    clear H
    go_wp2_with (first | ((with_reducible refine gate_callee (f := 51) rfl ?_); refine Hlp.gl (some 24) Try.func51 #[.int .i64 a0] ?_; (with_reducible refine (segment_New.calls a0 t327 t328 t329 _ A10.out).mono ?_); rintro e w11 ⟨v330, rfl, ho0, hb⟩; refine ⟨_, rfl, ?_⟩; have HO331 := Aside0.mk (Kd.R_lower ho0 (below_size (Hlp.bl HB.out))); replace HB := Aside0.mk (below_step (Hlp.bl HB.out) hb); (try clear hb); (try clear hb2); (try clear hk); (try clear hi); (try clear ho0)) | ((with_reducible refine gate_dst (N := 5) rfl ?_); refine Hlp.bx (N := 5) (cs := #[.int .i64 0, .int .i64 0, .slice none 0 0]) (t := 43) ?_; intro gb332 hg w12 hbox hb; replace HO331 := Aside0.mk (Kd.R_below (Hlp.rp HO331.out) hb); have BK332 := Aside0.mk (hbox); have GW332 := Aside0.mk ((by rw [hg]; exact (below_size (Hlp.bl HB.out)) : w.heap.size ≤ gb332)); have GE332 := Aside0.mk ((by rw [hg]; exact (below_size (Hlp.bl HB.out)) : w.heap.size ≤ gb332)); replace HB := Aside0.mk (below_step (Hlp.bl HB.out) hb); clear hb hbox hg; have hcz13_0 : w12.cell? ⟨gb332, 0, none⟩ = some (.int .i64 0) := (blk_cell BK332.out 0).trans rfl; have hcz13_1 : w12.cell? ⟨gb332, 1, none⟩ = some (.int .i64 0) := (blk_cell BK332.out 1).trans rfl; have hcz13_2 : w12.cell? ⟨gb332, 2, none⟩ = some (.slice none 0 0) := (blk_cell BK332.out 2).trans rfl; have hfz13_0 := blk_frozen BK332.out 0; have hfz13_1 := blk_frozen BK332.out 1; have hfz13_2 := blk_frozen BK332.out 2; obtain ⟨Ao14, co14, eo14⟩ := Kd.R_slice HO331.out; subst eo14))
    go_loopg [6, 7] kj2 (fun kq v6 v7 w' => ∃ (x6_2 : List (S23)) (x7_2 : Int) (x333000_2 : Int) (x333001_2 : Int) (x333002_2 : List Int) (u333002 : Value), v7 = .int .i64 x7_2 ∧ Aside0 (brokerlaw32_SegmentBack.l0 kq a0 l1 x6_2 x7_2 x333000_2 x333001_2 x333002_2 = some r) ∧ Aside0 (kq ≤ kj2) ∧ Aside0 (Kd.R k23 23 w' w.heap.size (fun _ => True) v6 x6_2) ∧ Aside0 (Kd.R (Kd.int .u8) 5 w' w.heap.size (fun _ => True) u333002 x333002_2) ∧ Aside0 (w'.heap[gb332]? = some (.cells #[.int .i64 x333000_2, .int .i64 x333001_2, u333002] 43 (0, 0))) ∧ Aside0 (Below w.heap.size w w'))
    case atStart => exact ⟨(([] : List (S23))), (0), (t327), (t328), (t329), (.slice Ao14 t329.length co14), (by first | rfl | (simp; done) | (simp [*]; done)), H', ⟨Nat.le_refl _⟩, ⟨by first | exact Kd.R_nil _ _ _ _ _ | exact Kd.N_nil _ _ _ _ _ | exact Kd.V_nil _ _ _ _ _ | exact Kd.Q_nil _ _ _ _ _ | exact Kd.S_nil _ _ _ _ _⟩, ⟨by (with_reducible repeat (first | apply Kd.R_alloc | apply Kd.R_drewN | apply Kd.R_drew)); exact Kd.R_mono (Kd.R_far (p := ⟨gb332, 2, none⟩) (Kd.R_far (p := ⟨gb332, 1, none⟩) (Kd.R_far (p := ⟨gb332, 0, none⟩) (Kd.R_types HO331.out BK332.out (by decide)) (fun _ hk => hk.2) (.int .i64 t327)) (fun _ hk => hk.2) (.int .i64 t328)) (fun _ hk => hk.2) (.slice Ao14 t329.length co14)) (fun _ hk => trivial)⟩, ⟨by refine Hlp.bp (blk_put (cs := #[.int .i64 t327, .int .i64 t328, .slice none 0 0]) ?_ 2 _ rfl); refine Hlp.bp (blk_put (cs := #[.int .i64 t327, .int .i64 0, .slice none 0 0]) ?_ 1 _ rfl); refine Hlp.bp (blk_put (cs := #[.int .i64 0, .int .i64 0, .slice none 0 0]) ?_ 0 _ rfl); exact Hlp.bp BK332.out⟩, ⟨Hlp.bl HB.out⟩⟩
    case round =>
     clear H'
     try clear c1
     try clear p2
     try clear c4
     try clear c4b0
     try clear c5
     try clear c5b0
     try clear c7
     try clear hcz13_0
     try clear hcz13_1
     try clear hcz13_2
     try clear hfz13_0
     try clear hfz13_1
     try clear hfz13_2
     try clear p2
     obtain ⟨x6_2, x7_2, x333000_2, x333001_2, x333002_2, u333002, rfl, HA, HK2, HO_6, HO_333002, BK332, HB⟩ := hrel
     cases gk with
     | zero => exact absurd HA.out (by simp [brokerlaw32_SegmentBack.l0])
     | succ k2 =>
      have H := HA.out
      clear HA
      simp only [brokerlaw32_SegmentBack.l0] at H
      by_cases c15 : x7_2 < (l1.length : Int)
      ·
       rw [if_pos c15] at H
       have c15b0 : decide (x7_2 < (l1.length : Int)) = true := decide_eq_true c15
       clear c15
       by_cases c16 : 0 ≤ x7_2
       ·
        rw [if_pos c16] at H
        have c16b0 : decide (0 ≤ x7_2) = true := decide_eq_true c16
        clear c16
        replace H := Option.bind_eq_some_iff.mp H
        obtain ⟨⟨t336, t337, t338, t341, t342⟩, A170, H⟩ := H
        replace H : (if t342 = 0 then (if t341 = (wrap64 (a0 + (x6_2.length : Int))) then (if t337 = (wrap64 (t341 + 1)) then (if t336 = a0 then (if x6_2.length < 2932031007402 then (brokerlaw32_SegmentBack.l0 k2 a0 l1 (x6_2 ++ [(⟨t341, (rd_T23 l1 x7_2).f1, (rd_T23 l1 x7_2).f2, (rd_T23 l1 x7_2).f3⟩ : S23)]) (wrap64 (x7_2 + 1)) t336 t337 t338) else (none)) else (none)) else (none)) else (none)) else (brokerlaw32_SegmentBack.l0 k2 a0 l1 x6_2 (wrap64 (x7_2 + 1)) x333000_2 x333001_2 x333002_2)) = some r := H
        have A17 := Aside0.mk A170
        clear A170
        by_cases c18 : t342 = 0
        ·
         rw [if_pos c18] at H
         have c18b0 : (t342 == 0) = true := beq_iff_eq.mpr c18
         have c18b1 : (t342 != 0) = false := bne_eq_false_iff_eq.mpr c18
         clear c18
         by_cases c19 : t341 = (wrap64 (a0 + (x6_2.length : Int)))
         ·
          rw [if_pos c19] at H
          have c19b0 : (t341 == (wrap64 (a0 + (x6_2.length : Int)))) = true := beq_iff_eq.mpr c19
          have c19b1 : (t341 != (wrap64 (a0 + (x6_2.length : Int)))) = false := bne_eq_false_iff_eq.mpr c19
          clear c19
          by_cases c20 : t337 = (wrap64 (t341 + 1))
          ·
           rw [if_pos c20] at H
           have c20b0 : (t337 == (wrap64 (t341 + 1))) = true := beq_iff_eq.mpr c20
           have c20b1 : (t337 != (wrap64 (t341 + 1))) = false := bne_eq_false_iff_eq.mpr c20
           clear c20
           by_cases c21 : t336 = a0
           ·
            rw [if_pos c21] at H
            have c21b0 : (t336 == a0) = true := beq_iff_eq.mpr c21
            have c21b1 : (t336 != a0) = false := bne_eq_false_iff_eq.mpr c21
            clear c21
            by_cases c22 : x6_2.length < 2932031007402
            ·
             rw [if_pos c22] at H
             have LMc22 := Aside0.mk c22
             clear c22
             obtain ⟨y347, hy347⟩ : ∃ y_ : List (S23), y_ = (x6_2 ++ [(⟨t341, (rd_T23 l1 x7_2).f1, (rd_T23 l1 x7_2).f2, (rd_T23 l1 x7_2).f3⟩ : S23)]) := ⟨_, rfl⟩
             replace H : (brokerlaw32_SegmentBack.l0 k2 a0 l1 y347 (wrap64 (x7_2 + 1)) t336 t337 t338) = some r := by first | (rw [hy347]; with_reducible exact H) | (have H2_ := (Option.bind_some _ _).symm.trans H; rw [hy347]; with_reducible exact H2_) | (have H2_ := (Option.bind_some _ _).symm.trans H; with_reducible exact H2_) | with_reducible exact H | (rw [hy347]; exact H) | exact H
             have Ny347 := Aside0.mk hy347
             clear hy347
             have H' := Aside0.mk H
             clear H
             obtain ⟨Ao23, co23, eo23⟩ := Kd.R_slice HO_333002.out
             subst eo23
             try go_wp2
             replace HO_6 := Aside0.mk (Kd.R_drew HO_6.out)
             replace HO_333002 := Aside0.mk (Kd.R_drew HO_333002.out)
             replace BK332 := Aside0.mk (blk_drew BK332.out)
             replace HB := Aside0.mk (below_drew1 HB.out)
             have p333 : 0 ≤ (x7_2 : Int) := of_decide_eq_true (by first | (with_reducible assumption) | assumption)
             have q333 : x7_2 < (l1.length : Int) := of_decide_eq_true (by first | (with_reducible assumption) | assumption)
             obtain ⟨ad333, e333, hx333_0, hx333_1, hx333_2, hx333_3⟩ := at_T23 HR1.out x7_2 p333 q333
             have hw333_3 := hx333_3
             have hw333_2 := hx333_2
             have hw333_1 := hx333_1
             have hw333_0 := hx333_0
             cases e333
             replace hx333_0 := (HB.out.cell (World.block_lt_of_cell? w _ hx333_0)).trans hx333_0
             replace hx333_1 := (HB.out.cell (World.block_lt_of_cell? w _ hx333_1)).trans hx333_1
             replace hx333_2 := (HB.out.cell (World.block_lt_of_cell? w _ hx333_2)).trans hx333_2
             replace hx333_3 := (HB.out.cell (World.block_lt_of_cell? w _ hx333_3)).trans hx333_3
             replace p333 := eq_true p333
             replace q333 := eq_true q333
             have p334 : 0 ≤ (x7_2 : Int) := of_decide_eq_true (by first | (with_reducible assumption) | assumption)
             have q334 : x7_2 < (l1.length : Int) := of_decide_eq_true (by first | (with_reducible assumption) | assumption)
             obtain ⟨ad334, e334, hx334_0, hx334_1, hx334_2, hx334_3⟩ := at_T23 HR1.out x7_2 p334 q334
             have hw334_3 := hx334_3
             have hw334_2 := hx334_2
             have hw334_1 := hx334_1
             have hw334_0 := hx334_0
             obtain rfl : ad333 = ad334 := (by injection e334)
             replace hx334_0 := (HB.out.cell (World.block_lt_of_cell? w _ hx334_0)).trans hx334_0
             replace hx334_1 := (HB.out.cell (World.block_lt_of_cell? w _ hx334_1)).trans hx334_1
             replace hx334_2 := (HB.out.cell (World.block_lt_of_cell? w _ hx334_2)).trans hx334_2
             replace hx334_3 := (HB.out.cell (World.block_lt_of_cell? w _ hx334_3)).trans hx334_3
             replace p334 := eq_true p334
             replace q334 := eq_true q334
             have p335 : 0 ≤ (x7_2 : Int) := of_decide_eq_true (by first | (with_reducible assumption) | assumption)
             have q335 : x7_2 < (l1.length : Int) := of_decide_eq_true (by first | (with_reducible assumption) | assumption)
             obtain ⟨ad335, e335, hx335_0, hx335_1, hx335_2, hx335_3⟩ := at_T23 HR1.out x7_2 p335 q335
             have hw335_3 := hx335_3
             have hw335_2 := hx335_2
             have hw335_1 := hx335_1
             have hw335_0 := hx335_0
             obtain rfl : ad333 = ad335 := (by injection e335)
             replace hx335_0 := (HB.out.cell (World.block_lt_of_cell? w _ hx335_0)).trans hx335_0
             replace hx335_1 := (HB.out.cell (World.block_lt_of_cell? w _ hx335_1)).trans hx335_1
             replace hx335_2 := (HB.out.cell (World.block_lt_of_cell? w _ hx335_2)).trans hx335_2
             replace hx335_3 := (HB.out.cell (World.block_lt_of_cell? w _ hx335_3)).trans hx335_3
             replace p335 := eq_true p335
             replace q335 := eq_true q335
             refine start_ (n := 25) (S := fun w' => w'.cell? ⟨gb332, 0, none⟩ = some (.int .i64 x333000_2) ∧ w'.cell? ⟨gb332, 1, none⟩ = some (.int .i64 x333001_2) ∧ w'.cell? ⟨gb332, 2, none⟩ = some (.slice Ao23 x333002_2.length co23) ∧ w'.cell? (ad333.add ((x7_2).toNat * 4)) = some (.int .i64 ((rd_T23 l1 x7_2).f0)) ∧ w'.cell? ⟨(ad333.add ((x7_2).toNat * 4)).block, (ad333.add ((x7_2).toNat * 4)).off + 1, none⟩ = some (.int .i64 ((rd_T23 l1 x7_2).f1)) ∧ w'.cell? ⟨(ad333.add ((x7_2).toNat * 4)).block, (ad333.add ((x7_2).toNat * 4)).off + 2, none⟩ = some (.string ((rd_T23 l1 x7_2).f2)) ∧ w'.cell? ⟨(ad333.add ((x7_2).toNat * 4)).block, (ad333.add ((x7_2).toNat * 4)).off + 3, none⟩ = some (.string ((rd_T23 l1 x7_2).f3)) ∧ w'.cell? (ad333.add ((x7_2).toNat * 4)) = some (.int .i64 ((rd_T23 l1 x7_2).f0)) ∧ w'.cell? ⟨(ad333.add ((x7_2).toNat * 4)).block, (ad333.add ((x7_2).toNat * 4)).off + 1, none⟩ = some (.int .i64 ((rd_T23 l1 x7_2).f1)) ∧ w'.cell? ⟨(ad333.add ((x7_2).toNat * 4)).block, (ad333.add ((x7_2).toNat * 4)).off + 2, none⟩ = some (.string ((rd_T23 l1 x7_2).f2)) ∧ w'.cell? ⟨(ad333.add ((x7_2).toNat * 4)).block, (ad333.add ((x7_2).toNat * 4)).off + 3, none⟩ = some (.string ((rd_T23 l1 x7_2).f3)) ∧ w'.cell? (ad333.add ((x7_2).toNat * 4)) = some (.int .i64 ((rd_T23 l1 x7_2).f0)) ∧ w'.cell? ⟨(ad333.add ((x7_2).toNat * 4)).block, (ad333.add ((x7_2).toNat * 4)).off + 1, none⟩ = some (.int .i64 ((rd_T23 l1 x7_2).f1)) ∧ w'.cell? ⟨(ad333.add ((x7_2).toNat * 4)).block, (ad333.add ((x7_2).toNat * 4)).off + 2, none⟩ = some (.string ((rd_T23 l1 x7_2).f2)) ∧ w'.cell? ⟨(ad333.add ((x7_2).toNat * 4)).block, (ad333.add ((x7_2).toNat * 4)).off + 3, none⟩ = some (.string ((rd_T23 l1 x7_2).f3))) (ds := []) #[false, false, false, false, false, false, false, false, false, false, false, false, false, false, false, false, false, false, false, false, false, false, false, false, false] (by kernel_rfl) rfl rfl ⟨(blk_cell BK332.out 0).trans rfl, (blk_cell BK332.out 1).trans rfl, (blk_cell BK332.out 2).trans rfl, ((HB.out.cell (World.block_lt_of_cell? w _ hw333_0)).trans hw333_0), ((HB.out.cell (World.block_lt_of_cell? w _ hw333_1)).trans hw333_1), ((HB.out.cell (World.block_lt_of_cell? w _ hw333_2)).trans hw333_2), ((HB.out.cell (World.block_lt_of_cell? w _ hw333_3)).trans hw333_3), ((HB.out.cell (World.block_lt_of_cell? w _ hw334_0)).trans hw334_0), ((HB.out.cell (World.block_lt_of_cell? w _ hw334_1)).trans hw334_1), ((HB.out.cell (World.block_lt_of_cell? w _ hw334_2)).trans hw334_2), ((HB.out.cell (World.block_lt_of_cell? w _ hw334_3)).trans hw334_3), ((HB.out.cell (World.block_lt_of_cell? w _ hw335_0)).trans hw335_0), ((HB.out.cell (World.block_lt_of_cell? w _ hw335_1)).trans hw335_1), ((HB.out.cell (World.block_lt_of_cell? w _ hw335_2)).trans hw335_2), ((HB.out.cell (World.block_lt_of_cell? w _ hw335_3)).trans hw335_3)⟩ (fun hHeld => ?_); refine with_tabW brokerlaw32_SegmentBack.tab8 brokerlaw32_SegmentBack.bits8 (fun HT_ HW_ => ?_)
             generalize wr.drew = w24 at HO_6 HO_333002 BK332 HB hx333_0 hx333_1 hx333_2 hx333_3 hx334_0 hx334_1 hx334_2 hx334_3 hx335_0 hx335_1 hx335_2 hx335_3 hHeld ⊢
             refine pure_ (i := 1) (N := some 33) (v := ?_) (a' := ?_) #[false, true, false, false, false, false, false, false, false, false, false, false, false, false, false, false, false, false, false, false, false, false, false, false, false] rfl rfl (any_of HT_.out (by kernel_rfl)) (fun _ _ _ h => h) (Or.inl ⟨by rfl, ?_⟩) ?_ ?_
             rotate_left
             ·
              intro w'
              go_simp
              with_reducible rfl
             rotate_left
             ·
              simp only [Act.put, List.setIfInBounds_toArray, List.set_cons_zero, List.set_cons_succ, i64_w, i32_w]
              rfl
             refine pure_ (i := 2) (N := some 34) (v := ?_) (a' := ?_) #[false, true, true, false, false, false, false, false, false, false, false, false, false, false, false, false, false, false, false, false, false, false, false, false, false] rfl rfl (any_of HT_.out (by kernel_rfl)) (fun _ _ _ h => h) (Or.inl ⟨by rfl, ?_⟩) ?_ ?_
             rotate_left
             ·
              intro w'
              go_simp
              with_reducible rfl
             rotate_left
             ·
              simp only [Act.put, List.setIfInBounds_toArray, List.set_cons_zero, List.set_cons_succ, i64_w, i32_w]
              rfl
             refine pure_ (i := 3) (N := some 35) (v := ?_) (a' := ?_) #[false, true, true, true, false, false, false, false, false, false, false, false, false, false, false, false, false, false, false, false, false, false, false, false, false] rfl rfl (any_of HT_.out (by kernel_rfl)) (fun _ _ _ h => h) (Or.inl ⟨by rfl, ?_⟩) ?_ ?_
             rotate_left
             ·
              intro w'
              go_simp
              with_reducible rfl
             rotate_left
             ·
              simp only [Act.put, List.setIfInBounds_toArray, List.set_cons_zero, List.set_cons_succ, i64_w, i32_w]
              rfl
             refine pure_ (i := 4) (N := some 36) (v := ?_) (a' := ?_) #[false, true, true, true, true, false, false, false, false, false, false, false, false, false, false, false, false, false, false, false, false, false, false, false, false] rfl rfl (any_of HT_.out (by kernel_rfl)) (fun _ _ _ h => h) (Or.inl ⟨by rfl, ?_⟩) ?_ ?_
             rotate_left
             ·
              intro w'
              go_simp
              with_reducible rfl
             rotate_left
             ·
              simp only [Act.put, List.setIfInBounds_toArray, List.set_cons_zero, List.set_cons_succ, i64_w, i32_w]
              rfl
             refine pure_ (i := 6) (N := some 38) (v := ?_) (a' := ?_) #[false, true, true, true, true, false, true, false, false, false, false, false, false, false, false, false, false, false, false, false, false, false, false, false, false] rfl rfl (any_of HT_.out (by kernel_rfl)) (fun _ _ _ h => h) (Or.inl ⟨by rfl, ?_⟩) ?_ ?_
             rotate_left
             ·
              intro w'
              go_simp
              with_reducible rfl
             rotate_left
             ·
              simp only [Act.put, List.setIfInBounds_toArray, List.set_cons_zero, List.set_cons_succ, i64_w, i32_w]
              rfl
             refine pure_ (i := 7) (N := some 39) (v := ?_) (a' := ?_) #[false, true, true, true, true, false, true, true, false, false, false, false, false, false, false, false, false, false, false, false, false, false, false, false, false] rfl rfl (any_of HT_.out (by kernel_rfl)) (fun _ _ _ h => h) (Or.inl ⟨by rfl, ?_⟩) ?_ ?_
             rotate_left
             ·
              intro w'
              go_simp
              with_reducible rfl
             rotate_left
             ·
              simp only [Act.put, List.setIfInBounds_toArray, List.set_cons_zero, List.set_cons_succ, i64_w, i32_w]
              rfl
             refine pure_ (i := 8) (N := some 40) (v := ?_) (a' := ?_) #[false, true, true, true, true, false, true, true, true, false, false, false, false, false, false, false, false, false, false, false, false, false, false, false, false] rfl rfl (any_of HT_.out (by kernel_rfl)) (fun _ _ _ h => h) (Or.inl ⟨by rfl, ?_⟩) ?_ ?_
             rotate_left
             ·
              intro w'
              go_simp
              with_reducible rfl
             rotate_left
             ·
              simp only [Act.put, List.setIfInBounds_toArray, List.set_cons_zero, List.set_cons_succ, i64_w, i32_w]
              rfl
             refine pure_ (i := 9) (N := some 41) (v := ?_) (a' := ?_) #[false, true, true, true, true, false, true, true, true, true, false, false, false, false, false, false, false, false, false, false, false, false, false, false, false] rfl rfl (any_of HT_.out (by kernel_rfl)) (fun _ _ _ h => h) (Or.inl ⟨by rfl, ?_⟩) ?_ ?_
             rotate_left
             ·
              intro w'
              go_simp
              with_reducible rfl
             rotate_left
             ·
              simp only [Act.put, List.setIfInBounds_toArray, List.set_cons_zero, List.set_cons_succ, i64_w, i32_w]
              rfl
             refine pure_ (i := 11) (N := some 43) (v := ?_) (a' := ?_) #[false, true, true, true, true, false, true, true, true, true, false, true, false, false, false, false, false, false, false, false, false, false, false, false, false] rfl rfl (any_of HT_.out (by kernel_rfl)) (fun _ _ _ h => h) (Or.inl ⟨by rfl, ?_⟩) ?_ ?_
             rotate_left
             ·
              intro w'
              go_simp
              with_reducible rfl
             rotate_left
             ·
              simp only [Act.put, List.setIfInBounds_toArray, List.set_cons_zero, List.set_cons_succ, i64_w, i32_w]
              rfl
             refine pure_ (i := 12) (N := some 44) (v := ?_) (a' := ?_) #[false, true, true, true, true, false, true, true, true, true, false, true, true, false, false, false, false, false, false, false, false, false, false, false, false] rfl rfl (any_of HT_.out (by kernel_rfl)) (fun _ _ _ h => h) (Or.inl ⟨by rfl, ?_⟩) ?_ ?_
             rotate_left
             ·
              intro w'
              go_simp
              with_reducible rfl
             rotate_left
             ·
              simp only [Act.put, List.setIfInBounds_toArray, List.set_cons_zero, List.set_cons_succ, i64_w, i32_w]
              rfl
             refine pure_ (i := 13) (N := some 45) (v := ?_) (a' := ?_) #[false, true, true, true, true, false, true, true, true, true, false, true, true, true, false, false, false, false, false, false, false, false, false, false, false] rfl rfl (any_of HT_.out (by kernel_rfl)) (fun _ _ _ h => h) (Or.inl ⟨by rfl, ?_⟩) ?_ ?_
             rotate_left
             ·
              intro w'
              go_simp
              with_reducible rfl
             rotate_left
             ·
              simp only [Act.put, List.setIfInBounds_toArray, List.set_cons_zero, List.set_cons_succ, i64_w, i32_w]
              rfl
             refine pure_ (i := 14) (N := some 46) (v := ?_) (a' := ?_) #[false, true, true, true, true, false, true, true, true, true, false, true, true, true, true, false, false, false, false, false, false, false, false, false, false] rfl rfl (any_of HT_.out (by kernel_rfl)) (fun _ _ _ h => h) (Or.inl ⟨by rfl, ?_⟩) ?_ ?_
             rotate_left
             ·
              intro w'
              go_simp
              with_reducible rfl
             rotate_left
             ·
              simp only [Act.put, List.setIfInBounds_toArray, List.set_cons_zero, List.set_cons_succ, i64_w, i32_w]
              rfl
             refine take_ (i := 0) (N := some 32) (v := ?_) (a' := ?_) #[true, true, true, true, true, false, true, true, true, true, false, true, true, true, true, false, false, false, false, false, false, false, false, false, false] rfl rfl (take_ofW HT_.out HW_.out (by kernel_rfl)) (fun _ _ _ h => h) (Or.inl ⟨by rfl, ?_⟩) hHeld ?_ ?_
             rotate_left
             ·
              rintro w' ⟨s0, s1, s2, s3, s4, s5, s6, s7, s8, s9, s10, s11, s12, s13, s14⟩
              go_simp
              with_reducible rfl
             rotate_left
             ·
              simp only [Act.put, List.setIfInBounds_toArray, List.set_cons_zero, List.set_cons_succ, i64_w, i32_w]
              rfl
             refine take_ (i := 5) (N := some 37) (v := ?_) (a' := ?_) #[true, true, true, true, true, true, true, true, true, true, false, true, true, true, true, false, false, false, false, false, false, false, false, false, false] rfl rfl (take_ofW HT_.out HW_.out (by kernel_rfl)) (fun _ _ _ h => h) (Or.inl ⟨by rfl, ?_⟩) hHeld ?_ ?_
             rotate_left
             ·
              rintro w' ⟨s0, s1, s2, s3, s4, s5, s6, s7, s8, s9, s10, s11, s12, s13, s14⟩
              go_simp
              with_reducible rfl
             rotate_left
             ·
              simp only [Act.put, List.setIfInBounds_toArray, List.set_cons_zero, List.set_cons_succ, i64_w, i32_w]
              rfl
             refine take_ (i := 10) (N := some 42) (v := ?_) (a' := ?_) #[true, true, true, true, true, true, true, true, true, true, true, true, true, true, true, false, false, false, false, false, false, false, false, false, false] rfl rfl (take_ofW HT_.out HW_.out (by kernel_rfl)) (fun _ _ _ h => h) (Or.inl ⟨by rfl, ?_⟩) hHeld ?_ ?_
             rotate_left
             ·
              rintro w' ⟨s0, s1, s2, s3, s4, s5, s6, s7, s8, s9, s10, s11, s12, s13, s14⟩
              go_simp
              with_reducible rfl
             rotate_left
             ·
              simp only [Act.put, List.setIfInBounds_toArray, List.set_cons_zero, List.set_cons_succ, i64_w, i32_w]
              rfl
             refine take_ (i := 15) (N := some 47) (v := ?_) (a' := ?_) #[true, true, true, true, true, true, true, true, true, true, true, true, true, true, true, true, false, false, false, false, false, false, false, false, false] rfl rfl (take_ofW HT_.out HW_.out (by kernel_rfl)) (fun _ _ _ h => h) (Or.inl ⟨by rfl, ?_⟩) hHeld ?_ ?_
             rotate_left
             ·
              rintro w' ⟨s0, s1, s2, s3, s4, s5, s6, s7, s8, s9, s10, s11, s12, s13, s14⟩
              go_simp
              with_reducible rfl
             rotate_left
             ·
              simp only [Act.put, List.setIfInBounds_toArray, List.set_cons_zero, List.set_cons_succ, i64_w, i32_w]
              rfl
             refine join_ (σ := Value × Nat) 3 #[true, true, true, true, true, true, true, true, true, true, true, true, true, true, true, true, true, true, true, true, true, true, false, false, false] (fun s_ => [(48, .tuple #[.agg #[.int .i64 t336, .int .i64 t337, s_.1], .int .i64 t341, .int .i64 t342]), (8, .pointer (some ⟨s_.2, 0, none⟩)), (31, .tuple #[.agg #[.int .i64 t336, .int .i64 t337, s_.1], .int .i64 t341, .int .i64 t342]), (49, .agg #[.int .i64 t336, .int .i64 t337, s_.1]), (50, .int .i64 t341), (51, .int .i64 t342)]) (fun s_ w' => (w'.cell? ⟨gb332, 0, none⟩ = some (.int .i64 x333000_2) ∧ w'.cell? ⟨gb332, 1, none⟩ = some (.int .i64 x333001_2) ∧ w'.cell? ⟨gb332, 2, none⟩ = some (.slice Ao23 x333002_2.length co23) ∧ w'.cell? (ad333.add ((x7_2).toNat * 4)) = some (.int .i64 ((rd_T23 l1 x7_2).f0)) ∧ w'.cell? ⟨(ad333.add ((x7_2).toNat * 4)).block, (ad333.add ((x7_2).toNat * 4)).off + 1, none⟩ = some (.int .i64 ((rd_T23 l1 x7_2).f1)) ∧ w'.cell? ⟨(ad333.add ((x7_2).toNat * 4)).block, (ad333.add ((x7_2).toNat * 4)).off + 2, none⟩ = some (.string ((rd_T23 l1 x7_2).f2)) ∧ w'.cell? ⟨(ad333.add ((x7_2).toNat * 4)).block, (ad333.add ((x7_2).toNat * 4)).off + 3, none⟩ = some (.string ((rd_T23 l1 x7_2).f3)) ∧ w'.cell? (ad333.add ((x7_2).toNat * 4)) = some (.int .i64 ((rd_T23 l1 x7_2).f0)) ∧ w'.cell? ⟨(ad333.add ((x7_2).toNat * 4)).block, (ad333.add ((x7_2).toNat * 4)).off + 1, none⟩ = some (.int .i64 ((rd_T23 l1 x7_2).f1)) ∧ w'.cell? ⟨(ad333.add ((x7_2).toNat * 4)).block, (ad333.add ((x7_2).toNat * 4)).off + 2, none⟩ = some (.string ((rd_T23 l1 x7_2).f2)) ∧ w'.cell? ⟨(ad333.add ((x7_2).toNat * 4)).block, (ad333.add ((x7_2).toNat * 4)).off + 3, none⟩ = some (.string ((rd_T23 l1 x7_2).f3)) ∧ w'.cell? (ad333.add ((x7_2).toNat * 4)) = some (.int .i64 ((rd_T23 l1 x7_2).f0)) ∧ w'.cell? ⟨(ad333.add ((x7_2).toNat * 4)).block, (ad333.add ((x7_2).toNat * 4)).off + 1, none⟩ = some (.int .i64 ((rd_T23 l1 x7_2).f1)) ∧ w'.cell? ⟨(ad333.add ((x7_2).toNat * 4)).block, (ad333.add ((x7_2).toNat * 4)).off + 2, none⟩ = some (.string ((rd_T23 l1 x7_2).f2)) ∧ w'.cell? ⟨(ad333.add ((x7_2).toNat * 4)).block, (ad333.add ((x7_2).toNat * 4)).off + 3, none⟩ = some (.string ((rd_T23 l1 x7_2).f3))) ∧ (Kd.R (Kd.int .u8) 5 w' w.heap.size (fun k_ => some k_ ≠ (.slice Ao23 x333002_2.length co23 : Value).ownBlock) s_.1 t338) ∧ (Kd.R (Kd.int .u8) 5 w' w.heap.size (fun k_ => some k_ ≠ (s_.1 : Value).ownBlock) (.slice Ao23 x333002_2.length co23) x333002_2) ∧ (Kd.R k23 23 w' w.heap.size (fun _ => True) u6 x6_2) ∧ (w'.heap[gb332]? = some (.cells #[.int .i64 x333000_2, .int .i64 x333001_2, .slice Ao23 x333002_2.length co23] 43 (0, 0))) ∧ (w'.heap[s_.2]? = some (.cells #[.int .i64 0, .int .i64 0, .slice none 0 0] 43 (0, 0))) ∧ (w.heap.size ≤ s_.2) ∧ (w.heap.size ≤ s_.2) ∧ (gb332 ≠ s_.2) ∧ (s_.2 ≠ gb332) ∧ (Below w.heap.size w w')) ?_ ?_
             rotate_left
             ·
              intro hCont
              refine two_ (i := 16) (j := 21) (Ni := some 48) (Nj := some 8) #[true, true, true, true, true, true, true, true, true, true, true, true, true, true, true, true, true, false, false, false, false, false, false, false, false] #[true, true, true, true, true, true, true, true, true, true, true, true, true, true, true, true, false, false, false, false, false, true, false, false, false] rfl rfl rfl rfl (two_of HT_.out (by kernel_rfl)) (by decide) (by decide) (fun K hK => ?_) (fun K hK => ?_)
              ·
               skip
               refine goes_ Try.func53 (by kernel_rfl) rfl #[.agg #[.int .i64 x333000_2, .int .i64 x333001_2, .slice Ao23 x333002_2.length co23], .int .i64 ((rd_T23 l1 x7_2).f1), .string ((rd_T23 l1 x7_2).f2), .string ((rd_T23 l1 x7_2).f3)] (by rfl) rfl rfl (by (try simp only [List.map_toArray, List.map_cons, List.map_nil]); first | done | rfl | (simp only [List.length_drop, List.length_take]; rfl)) ?_
               with_reducible refine (segment_Append.calls k2 x333000_2 x333001_2 _ _ x333002_2 ((rd_T23 l1 x7_2).f1) ((rd_T23 l1 x7_2).f2) ((rd_T23 l1 x7_2).f3) t336 t337 t338 t341 t342 _ ?side1 ?side2 A17.out).mono ?_
               (case side1 => exact Hlp.cp (Kd.R_reads' HO_333002.out).2.2)
               (case side2 => exact (Kd.R_reads' HO_333002.out).2.1)
               rintro e w25 ⟨v339, rfl, ho0, hb⟩
               refine ⟨_, rfl, ?_⟩
               replace HO_6 := Aside0.mk (Kd.R_below (Hlp.rp HO_6.out) hb)
               have HO340 := Aside0.mk (Kd.R_lower (Kd.R_new' ho0 (Kd.R_lt (Hlp.rp HO_333002.out))) (below_size (Hlp.bl HB.out)))
               replace HO_333002 := Aside0.mk (Kd.R_elder' (Hlp.rp HO_333002.out) (Kd.R_base ho0) hb)
               replace BK332 := Aside0.mk (blk_below (g := gb332) (o := .cells #[.int .i64 x333000_2, .int .i64 x333001_2, .slice Ao23 x333002_2.length co23] 43 (0, 0)) (Hlp.bp BK332.out) hb)
               replace HB := Aside0.mk (below_step (Hlp.bl HB.out) hb)
               (try clear hb)
               (try clear hb2)
               (try clear hk)
               (try clear hi)
               (try clear ho0)
               refine hK.out _ _ ⟨(blk_cell BK332.out 0).trans rfl, (blk_cell BK332.out 1).trans rfl, (blk_cell BK332.out 2).trans rfl, ((HB.out.cell (World.block_lt_of_cell? w _ hw333_0)).trans hw333_0), ((HB.out.cell (World.block_lt_of_cell? w _ hw333_1)).trans hw333_1), ((HB.out.cell (World.block_lt_of_cell? w _ hw333_2)).trans hw333_2), ((HB.out.cell (World.block_lt_of_cell? w _ hw333_3)).trans hw333_3), ((HB.out.cell (World.block_lt_of_cell? w _ hw334_0)).trans hw334_0), ((HB.out.cell (World.block_lt_of_cell? w _ hw334_1)).trans hw334_1), ((HB.out.cell (World.block_lt_of_cell? w _ hw334_2)).trans hw334_2), ((HB.out.cell (World.block_lt_of_cell? w _ hw334_3)).trans hw334_3), ((HB.out.cell (World.block_lt_of_cell? w _ hw335_0)).trans hw335_0), ((HB.out.cell (World.block_lt_of_cell? w _ hw335_1)).trans hw335_1), ((HB.out.cell (World.block_lt_of_cell? w _ hw335_2)).trans hw335_2), ((HB.out.cell (World.block_lt_of_cell? w _ hw335_3)).trans hw335_3)⟩ (fun hHeld => ?_)
               clear hK K
               refine norm_ (a' := ?_) ?_ ?_
               rotate_left
               ·
                show Act.put _ (some 48) _ = _
                simp only [Act.put, List.setIfInBounds_toArray, List.set_cons_zero, List.set_cons_succ, i64_w, i32_w]
                rfl
               refine pure_ (i := 17) (N := some 31) (v := ?_) (a' := ?_) #[true, true, true, true, true, true, true, true, true, true, true, true, true, true, true, true, true, true, false, false, false, false, false, false, false] rfl rfl (any_of HT_.out (by kernel_rfl)) (fun _ _ _ h => h) (Or.inl ⟨by rfl, ?_⟩) ?_ ?_
               rotate_left
               ·
                intro w'
                go_simp
                with_reducible rfl
               rotate_left
               ·
                simp only [Act.put, List.setIfInBounds_toArray, List.set_cons_zero, List.set_cons_succ, i64_w, i32_w]
                rfl
               refine pure_ (i := 18) (N := some 49) (v := ?_) (a' := ?_) #[true, true, true, true, true, true, true, true, true, true, true, true, true, true, true, true, true, true, true, false, false, false, false, false, false] rfl rfl (any_of HT_.out (by kernel_rfl)) (fun _ _ _ h => h) (Or.inl ⟨by rfl, ?_⟩) ?_ ?_
               rotate_left
               ·
                intro w'
                go_simp
                with_reducible rfl
               rotate_left
               ·
                simp only [Act.put, List.setIfInBounds_toArray, List.set_cons_zero, List.set_cons_succ, i64_w, i32_w]
                rfl
               refine pure_ (i := 19) (N := some 50) (v := ?_) (a' := ?_) #[true, true, true, true, true, true, true, true, true, true, true, true, true, true, true, true, true, true, true, true, false, false, false, false, false] rfl rfl (any_of HT_.out (by kernel_rfl)) (fun _ _ _ h => h) (Or.inl ⟨by rfl, ?_⟩) ?_ ?_
               rotate_left
               ·
                intro w'
                go_simp
                with_reducible rfl
               rotate_left
               ·
                simp only [Act.put, List.setIfInBounds_toArray, List.set_cons_zero, List.set_cons_succ, i64_w, i32_w]
                rfl
               refine pure_ (i := 20) (N := some 51) (v := ?_) (a' := ?_) #[true, true, true, true, true, true, true, true, true, true, true, true, true, true, true, true, true, true, true, true, true, false, false, false, false] rfl rfl (any_of HT_.out (by kernel_rfl)) (fun _ _ _ h => h) (Or.inl ⟨by rfl, ?_⟩) ?_ ?_
               rotate_left
               ·
                intro w'
                go_simp
                with_reducible rfl
               rotate_left
               ·
                simp only [Act.put, List.setIfInBounds_toArray, List.set_cons_zero, List.set_cons_succ, i64_w, i32_w]
                rfl
               refine one_ (i := 21) (N := some 8) #[true, true, true, true, true, true, true, true, true, true, true, true, true, true, true, true, true, true, true, true, true, true, false, false, false] rfl rfl (one_of HT_.out (by kernel_rfl)) (by decide) (fun K hK => ?_)
               refine box_step ?hg (N := 8) ?hd (cs := #[.int .i64 0, .int .i64 0, .slice none 0 0]) (t := 43) ?hr ?_; (case hd => rfl); (case hg => rfl); (case hr => first | (go_simp; done) | (go_simp; rfl))
               intro gb343 hg w26 hbox hb
               replace HO_6 := Aside0.mk (Kd.R_below (Hlp.rp HO_6.out) hb)
               replace HO_333002 := Aside0.mk (Kd.R_below (Hlp.rp HO_333002.out) hb)
               replace HO340 := Aside0.mk (Kd.R_below (Hlp.rp HO340.out) hb)
               have BK343 := Aside0.mk (hbox)
               have GW343 := Aside0.mk ((by rw [hg]; exact (below_size (Hlp.bl HB.out)) : w.heap.size ≤ gb343))
               have GE343 := Aside0.mk ((by rw [hg]; exact (below_size (Hlp.bl HB.out)) : w.heap.size ≤ gb343))
               replace HB := Aside0.mk (below_step (Hlp.bl HB.out) hb)
               have NB332_343 := Aside0.mk ((by rw [hg]; exact Nat.ne_of_lt (blk_lt (g := gb332) (o := .cells #[.int .i64 x333000_2, .int .i64 x333001_2, .slice Ao23 x333002_2.length co23] 43 (0, 0)) (Hlp.bp BK332.out)) : gb332 ≠ gb343))
               have NB343_332 := Aside0.mk ((by rw [hg]; exact Nat.ne_of_gt (blk_lt (g := gb332) (o := .cells #[.int .i64 x333000_2, .int .i64 x333001_2, .slice Ao23 x333002_2.length co23] 43 (0, 0)) (Hlp.bp BK332.out)) : gb343 ≠ gb332))
               replace BK332 := Aside0.mk (blk_below (g := gb332) (o := .cells #[.int .i64 x333000_2, .int .i64 x333001_2, .slice Ao23 x333002_2.length co23] 43 (0, 0)) (Hlp.bp BK332.out) hb)
               clear hb hbox hg
               refine hK.out _ _ ⟨(blk_cell BK332.out 0).trans rfl, (blk_cell BK332.out 1).trans rfl, (blk_cell BK332.out 2).trans rfl, ((HB.out.cell (World.block_lt_of_cell? w _ hw333_0)).trans hw333_0), ((HB.out.cell (World.block_lt_of_cell? w _ hw333_1)).trans hw333_1), ((HB.out.cell (World.block_lt_of_cell? w _ hw333_2)).trans hw333_2), ((HB.out.cell (World.block_lt_of_cell? w _ hw333_3)).trans hw333_3), ((HB.out.cell (World.block_lt_of_cell? w _ hw334_0)).trans hw334_0), ((HB.out.cell (World.block_lt_of_cell? w _ hw334_1)).trans hw334_1), ((HB.out.cell (World.block_lt_of_cell? w _ hw334_2)).trans hw334_2), ((HB.out.cell (World.block_lt_of_cell? w _ hw334_3)).trans hw334_3), ((HB.out.cell (World.block_lt_of_cell? w _ hw335_0)).trans hw335_0), ((HB.out.cell (World.block_lt_of_cell? w _ hw335_1)).trans hw335_1), ((HB.out.cell (World.block_lt_of_cell? w _ hw335_2)).trans hw335_2), ((HB.out.cell (World.block_lt_of_cell? w _ hw335_3)).trans hw335_3)⟩ (fun hHeld => ?_)
               clear hK K
               refine norm_ (a' := ?_) ?_ ?_
               rotate_left
               ·
                show Act.put _ (some 8) _ = _
                simp only [Act.put, List.setIfInBounds_toArray, List.set_cons_zero, List.set_cons_succ, i64_w, i32_w]
                rfl
               exact norm_ (by simp only [putAll, Act.put, List.setIfInBounds_toArray, List.set_cons_zero, List.set_cons_succ]) (hCont (v339, gb343) _ ⟨hHeld, (by (with_reducible repeat (first | apply Kd.R_alloc | apply Kd.R_drewN | apply Kd.R_drew)); exact Kd.R_mono HO340.out (fun _ hk => hk.2)), (by (with_reducible repeat (first | apply Kd.R_alloc | apply Kd.R_drewN | apply Kd.R_drew)); exact Kd.R_mono HO_333002.out (fun _ hk => hk.2)), (Hlp.rp HO_6.out), (Hlp.bp BK332.out), (Hlp.bp BK343.out), GW343.out, GE343.out, NB332_343.out, NB343_332.out, (Hlp.bl HB.out)⟩)
              ·
               skip
               refine box_step ?hg (N := 8) ?hd (cs := #[.int .i64 0, .int .i64 0, .slice none 0 0]) (t := 43) ?hr ?_; (case hd => rfl); (case hg => rfl); (case hr => first | (go_simp; done) | (go_simp; rfl))
               intro gb343 hg w25 hbox hb
               replace HO_6 := Aside0.mk (Kd.R_below (Hlp.rp HO_6.out) hb)
               replace HO_333002 := Aside0.mk (Kd.R_below (Hlp.rp HO_333002.out) hb)
               have BK343 := Aside0.mk (hbox)
               have GW343 := Aside0.mk ((by rw [hg]; exact (below_size (Hlp.bl HB.out)) : w.heap.size ≤ gb343))
               have GE343 := Aside0.mk ((by rw [hg]; exact (below_size (Hlp.bl HB.out)) : w.heap.size ≤ gb343))
               replace HB := Aside0.mk (below_step (Hlp.bl HB.out) hb)
               have NB332_343 := Aside0.mk ((by rw [hg]; exact Nat.ne_of_lt (blk_lt (g := gb332) (o := .cells #[.int .i64 x333000_2, .int .i64 x333001_2, .slice Ao23 x333002_2.length co23] 43 (0, 0)) (Hlp.bp BK332.out)) : gb332 ≠ gb343))
               have NB343_332 := Aside0.mk ((by rw [hg]; exact Nat.ne_of_gt (blk_lt (g := gb332) (o := .cells #[.int .i64 x333000_2, .int .i64 x333001_2, .slice Ao23 x333002_2.length co23] 43 (0, 0)) (Hlp.bp BK332.out)) : gb343 ≠ gb332))
               replace BK332 := Aside0.mk (blk_below (g := gb332) (o := .cells #[.int .i64 x333000_2, .int .i64 x333001_2, .slice Ao23 x333002_2.length co23] 43 (0, 0)) (Hlp.bp BK332.out) hb)
               clear hb hbox hg
               refine hK.out _ _ ⟨(blk_cell BK332.out 0).trans rfl, (blk_cell BK332.out 1).trans rfl, (blk_cell BK332.out 2).trans rfl, ((HB.out.cell (World.block_lt_of_cell? w _ hw333_0)).trans hw333_0), ((HB.out.cell (World.block_lt_of_cell? w _ hw333_1)).trans hw333_1), ((HB.out.cell (World.block_lt_of_cell? w _ hw333_2)).trans hw333_2), ((HB.out.cell (World.block_lt_of_cell? w _ hw333_3)).trans hw333_3), ((HB.out.cell (World.block_lt_of_cell? w _ hw334_0)).trans hw334_0), ((HB.out.cell (World.block_lt_of_cell? w _ hw334_1)).trans hw334_1), ((HB.out.cell (World.block_lt_of_cell? w _ hw334_2)).trans hw334_2), ((HB.out.cell (World.block_lt_of_cell? w _ hw334_3)).trans hw334_3), ((HB.out.cell (World.block_lt_of_cell? w _ hw335_0)).trans hw335_0), ((HB.out.cell (World.block_lt_of_cell? w _ hw335_1)).trans hw335_1), ((HB.out.cell (World.block_lt_of_cell? w _ hw335_2)).trans hw335_2), ((HB.out.cell (World.block_lt_of_cell? w _ hw335_3)).trans hw335_3)⟩ (fun hHeld => ?_)
               clear hK K
               refine norm_ (a' := ?_) ?_ ?_
               rotate_left
               ·
                show Act.put _ (some 8) _ = _
                simp only [Act.put, List.setIfInBounds_toArray, List.set_cons_zero, List.set_cons_succ, i64_w, i32_w]
                rfl
               refine one_ (i := 16) (N := some 48) #[true, true, true, true, true, true, true, true, true, true, true, true, true, true, true, true, true, false, false, false, false, true, false, false, false] rfl rfl (one_of HT_.out (by kernel_rfl)) (by decide) (fun K hK => ?_)
               refine goes_ Try.func53 (by kernel_rfl) rfl #[.agg #[.int .i64 x333000_2, .int .i64 x333001_2, .slice Ao23 x333002_2.length co23], .int .i64 ((rd_T23 l1 x7_2).f1), .string ((rd_T23 l1 x7_2).f2), .string ((rd_T23 l1 x7_2).f3)] (by rfl) rfl rfl (by (try simp only [List.map_toArray, List.map_cons, List.map_nil]); first | done | rfl | (simp only [List.length_drop, List.length_take]; rfl)) ?_
               with_reducible refine (segment_Append.calls k2 x333000_2 x333001_2 _ _ x333002_2 ((rd_T23 l1 x7_2).f1) ((rd_T23 l1 x7_2).f2) ((rd_T23 l1 x7_2).f3) t336 t337 t338 t341 t342 _ ?side1 ?side2 A17.out).mono ?_
               (case side1 => exact Hlp.cp (Kd.R_reads' HO_333002.out).2.2)
               (case side2 => exact (Kd.R_reads' HO_333002.out).2.1)
               rintro e w26 ⟨v339, rfl, ho0, hb⟩
               refine ⟨_, rfl, ?_⟩
               replace HO_6 := Aside0.mk (Kd.R_below (Hlp.rp HO_6.out) hb)
               have HO340 := Aside0.mk (Kd.R_lower (Kd.R_new' ho0 (Kd.R_lt (Hlp.rp HO_333002.out))) (below_size (Hlp.bl HB.out)))
               replace HO_333002 := Aside0.mk (Kd.R_elder' (Hlp.rp HO_333002.out) (Kd.R_base ho0) hb)
               replace BK332 := Aside0.mk (blk_below (g := gb332) (o := .cells #[.int .i64 x333000_2, .int .i64 x333001_2, .slice Ao23 x333002_2.length co23] 43 (0, 0)) (Hlp.bp BK332.out) hb)
               replace BK343 := Aside0.mk (blk_below (g := gb343) (o := .cells #[.int .i64 0, .int .i64 0, .slice none 0 0] 43 (0, 0)) (Hlp.bp BK343.out) hb)
               replace HB := Aside0.mk (below_step (Hlp.bl HB.out) hb)
               (try clear hb)
               (try clear hb2)
               (try clear hk)
               (try clear hi)
               (try clear ho0)
               refine hK.out _ _ ⟨(blk_cell BK332.out 0).trans rfl, (blk_cell BK332.out 1).trans rfl, (blk_cell BK332.out 2).trans rfl, ((HB.out.cell (World.block_lt_of_cell? w _ hw333_0)).trans hw333_0), ((HB.out.cell (World.block_lt_of_cell? w _ hw333_1)).trans hw333_1), ((HB.out.cell (World.block_lt_of_cell? w _ hw333_2)).trans hw333_2), ((HB.out.cell (World.block_lt_of_cell? w _ hw333_3)).trans hw333_3), ((HB.out.cell (World.block_lt_of_cell? w _ hw334_0)).trans hw334_0), ((HB.out.cell (World.block_lt_of_cell? w _ hw334_1)).trans hw334_1), ((HB.out.cell (World.block_lt_of_cell? w _ hw334_2)).trans hw334_2), ((HB.out.cell (World.block_lt_of_cell? w _ hw334_3)).trans hw334_3), ((HB.out.cell (World.block_lt_of_cell? w _ hw335_0)).trans hw335_0), ((HB.out.cell (World.block_lt_of_cell? w _ hw335_1)).trans hw335_1), ((HB.out.cell (World.block_lt_of_cell? w _ hw335_2)).trans hw335_2), ((HB.out.cell (World.block_lt_of_cell? w _ hw335_3)).trans hw335_3)⟩ (fun hHeld => ?_)
               clear hK K
               refine norm_ (a' := ?_) ?_ ?_
               rotate_left
               ·
                show Act.put _ (some 48) _ = _
                simp only [Act.put, List.setIfInBounds_toArray, List.set_cons_zero, List.set_cons_succ, i64_w, i32_w]
                rfl
               refine pure_ (i := 17) (N := some 31) (v := ?_) (a' := ?_) #[true, true, true, true, true, true, true, true, true, true, true, true, true, true, true, true, true, true, false, false, false, true, false, false, false] rfl rfl (any_of HT_.out (by kernel_rfl)) (fun _ _ _ h => h) (Or.inl ⟨by rfl, ?_⟩) ?_ ?_
               rotate_left
               ·
                intro w'
                go_simp
                with_reducible rfl
               rotate_left
               ·
                simp only [Act.put, List.setIfInBounds_toArray, List.set_cons_zero, List.set_cons_succ, i64_w, i32_w]
                rfl
               refine pure_ (i := 18) (N := some 49) (v := ?_) (a' := ?_) #[true, true, true, true, true, true, true, true, true, true, true, true, true, true, true, true, true, true, true, false, false, true, false, false, false] rfl rfl (any_of HT_.out (by kernel_rfl)) (fun _ _ _ h => h) (Or.inl ⟨by rfl, ?_⟩) ?_ ?_
               rotate_left
               ·
                intro w'
                go_simp
                with_reducible rfl
               rotate_left
               ·
                simp only [Act.put, List.setIfInBounds_toArray, List.set_cons_zero, List.set_cons_succ, i64_w, i32_w]
                rfl
               refine pure_ (i := 19) (N := some 50) (v := ?_) (a' := ?_) #[true, true, true, true, true, true, true, true, true, true, true, true, true, true, true, true, true, true, true, true, false, true, false, false, false] rfl rfl (any_of HT_.out (by kernel_rfl)) (fun _ _ _ h => h) (Or.inl ⟨by rfl, ?_⟩) ?_ ?_
               rotate_left
               ·
                intro w'
                go_simp
                with_reducible rfl
               rotate_left
               ·
                simp only [Act.put, List.setIfInBounds_toArray, List.set_cons_zero, List.set_cons_succ, i64_w, i32_w]
                rfl
               refine pure_ (i := 20) (N := some 51) (v := ?_) (a' := ?_) #[true, true, true, true, true, true, true, true, true, true, true, true, true, true, true, true, true, true, true, true, true, true, false, false, false] rfl rfl (any_of HT_.out (by kernel_rfl)) (fun _ _ _ h => h) (Or.inl ⟨by rfl, ?_⟩) ?_ ?_
               rotate_left
               ·
                intro w'
                go_simp
                with_reducible rfl
               rotate_left
               ·
                simp only [Act.put, List.setIfInBounds_toArray, List.set_cons_zero, List.set_cons_succ, i64_w, i32_w]
                rfl
               exact norm_ (by simp only [putAll, Act.put, List.setIfInBounds_toArray, List.set_cons_zero, List.set_cons_succ]) (hCont (v339, gb343) _ ⟨hHeld, (by (with_reducible repeat (first | apply Kd.R_alloc | apply Kd.R_drewN | apply Kd.R_drew)); exact Kd.R_mono HO340.out (fun _ hk => hk.2)), (by (with_reducible repeat (first | apply Kd.R_alloc | apply Kd.R_drewN | apply Kd.R_drew)); exact Kd.R_mono HO_333002.out (fun _ hk => hk.2)), (Hlp.rp HO_6.out), (Hlp.bp BK332.out), (Hlp.bp BK343.out), GW343.out, GE343.out, NB332_343.out, NB343_332.out, (Hlp.bl HB.out)⟩)
             rintro ⟨v339, gb343⟩ w27 ⟨hS_, h0_, h1_, h2_, h3_, h4_, h5_, h6_, h7_, h8_, h9_⟩
             have n0_ : Aside0 (Kd.R (Kd.int .u8) 5 w27 w.heap.size (fun k_ => some k_ ≠ (.slice Ao23 x333002_2.length co23 : Value).ownBlock) v339 t338) := ⟨h0_⟩
             have n1_ : Aside0 (Kd.R (Kd.int .u8) 5 w27 w.heap.size (fun k_ => some k_ ≠ (v339 : Value).ownBlock) (.slice Ao23 x333002_2.length co23) x333002_2) := ⟨h1_⟩
             have n2_ : Aside0 (Kd.R k23 23 w27 w.heap.size (fun _ => True) u6 x6_2) := ⟨h2_⟩
             have n3_ : Aside0 (w27.heap[gb332]? = some (.cells #[.int .i64 x333000_2, .int .i64 x333001_2, .slice Ao23 x333002_2.length co23] 43 (0, 0))) := ⟨h3_⟩
             have n4_ : Aside0 (w27.heap[gb343]? = some (.cells #[.int .i64 0, .int .i64 0, .slice none 0 0] 43 (0, 0))) := ⟨h4_⟩
             have n5_ : Aside0 (w.heap.size ≤ gb343) := ⟨h5_⟩
             have n6_ : Aside0 (w.heap.size ≤ gb343) := ⟨h6_⟩
             have n7_ : Aside0 (gb332 ≠ gb343) := ⟨h7_⟩
             have n8_ : Aside0 (gb343 ≠ gb332) := ⟨h8_⟩
             have n9_ : Aside0 (Below w.heap.size w w27) := ⟨h9_⟩
             clear HO_6
             clear HO_333002
             clear BK332
             clear HB
             clear h0_ h1_ h2_ h3_ h4_ h5_ h6_ h7_ h8_ h9_
             have HO340 := n0_
             have HO_333002 := n1_
             have HO_6 := n2_
             have BK332 := n3_
             have BK343 := n4_
             have GW343 := n5_
             have GE343 := n6_
             have NB332_343 := n7_
             have NB343_332 := n8_
             have HB := n9_
             clear n0_ n1_ n2_ n3_ n4_ n5_ n6_ n7_ n8_ n9_
             have hHeld : w27.cell? ⟨gb332, 0, none⟩ = some (.int .i64 x333000_2) ∧ w27.cell? ⟨gb332, 1, none⟩ = some (.int .i64 x333001_2) ∧ w27.cell? ⟨gb332, 2, none⟩ = some (.slice Ao23 x333002_2.length co23) ∧ w27.cell? (ad333.add ((x7_2).toNat * 4)) = some (.int .i64 ((rd_T23 l1 x7_2).f0)) ∧ w27.cell? ⟨(ad333.add ((x7_2).toNat * 4)).block, (ad333.add ((x7_2).toNat * 4)).off + 1, none⟩ = some (.int .i64 ((rd_T23 l1 x7_2).f1)) ∧ w27.cell? ⟨(ad333.add ((x7_2).toNat * 4)).block, (ad333.add ((x7_2).toNat * 4)).off + 2, none⟩ = some (.string ((rd_T23 l1 x7_2).f2)) ∧ w27.cell? ⟨(ad333.add ((x7_2).toNat * 4)).block, (ad333.add ((x7_2).toNat * 4)).off + 3, none⟩ = some (.string ((rd_T23 l1 x7_2).f3)) ∧ w27.cell? (ad333.add ((x7_2).toNat * 4)) = some (.int .i64 ((rd_T23 l1 x7_2).f0)) ∧ w27.cell? ⟨(ad333.add ((x7_2).toNat * 4)).block, (ad333.add ((x7_2).toNat * 4)).off + 1, none⟩ = some (.int .i64 ((rd_T23 l1 x7_2).f1)) ∧ w27.cell? ⟨(ad333.add ((x7_2).toNat * 4)).block, (ad333.add ((x7_2).toNat * 4)).off + 2, none⟩ = some (.string ((rd_T23 l1 x7_2).f2)) ∧ w27.cell? ⟨(ad333.add ((x7_2).toNat * 4)).block, (ad333.add ((x7_2).toNat * 4)).off + 3, none⟩ = some (.string ((rd_T23 l1 x7_2).f3)) ∧ w27.cell? (ad333.add ((x7_2).toNat * 4)) = some (.int .i64 ((rd_T23 l1 x7_2).f0)) ∧ w27.cell? ⟨(ad333.add ((x7_2).toNat * 4)).block, (ad333.add ((x7_2).toNat * 4)).off + 1, none⟩ = some (.int .i64 ((rd_T23 l1 x7_2).f1)) ∧ w27.cell? ⟨(ad333.add ((x7_2).toNat * 4)).block, (ad333.add ((x7_2).toNat * 4)).off + 2, none⟩ = some (.string ((rd_T23 l1 x7_2).f2)) ∧ w27.cell? ⟨(ad333.add ((x7_2).toNat * 4)).block, (ad333.add ((x7_2).toNat * 4)).off + 3, none⟩ = some (.string ((rd_T23 l1 x7_2).f3)) := hS_
             obtain ⟨Ao30, co30, eo30⟩ := Kd.R_slice HO340.out
             (first | subst eo30 | (injection eo30 with f1_ f2_ f3_; have f4_ := f1_.symm; have f5_ := f3_.symm; clear f1_ f2_ f3_; subst f4_; subst f5_))
             refine norm_ (a' := ?_) ?_ ?_
             rotate_left
             ·
              simp only [putAll, Act.put, List.setIfInBounds_toArray, List.set_cons_zero, List.set_cons_succ]
              rfl
             refine one_ (i := 22) (N := none) #[true, true, true, true, true, true, true, true, true, true, true, true, true, true, true, true, true, true, true, true, true, true, true, false, false] rfl rfl (one_of HT_.out (by kernel_rfl)) (by decide) (fun K hK => ?_)
             have hs28 : w27.cell? ⟨gb343, 0, none⟩ = some (.int .i64 0) := (blk_cell BK343.out 0).trans rfl
             have hfs28 := blk_frozen BK343.out 0
             have hns28_0 := NB332_343.out
             have hms28_0 := NB343_332.out
             have hs29 : w27.cell? ⟨gb343, 1, none⟩ = some (.int .i64 0) := (blk_cell BK343.out 1).trans rfl
             have hfs29 := blk_frozen BK343.out 1
             have hns29_0 := NB332_343.out
             have hms29_0 := NB343_332.out
             have hs31 : w27.cell? ⟨gb343, 2, none⟩ = some (.slice none 0 0) := (blk_cell BK343.out 2).trans rfl
             have hfs31 := blk_frozen BK343.out 2
             have hns31_0 := NB332_343.out
             have hms31_0 := NB343_332.out
             refine skip_ (w1 := ?_) (by rfl) rfl ?_ ?_
             rotate_left
             ·
              go_simp
              rfl
             refine hK.out _ _ ⟨((cell_far (p := ⟨gb343, _, none⟩) NB332_343.out _).trans (((cell_far (p := ⟨gb343, _, none⟩) NB332_343.out _).trans (((cell_far (p := ⟨gb343, _, none⟩) NB332_343.out _).trans (hHeld.1)))))), ((cell_far (p := ⟨gb343, _, none⟩) NB332_343.out _).trans (((cell_far (p := ⟨gb343, _, none⟩) NB332_343.out _).trans (((cell_far (p := ⟨gb343, _, none⟩) NB332_343.out _).trans (hHeld.2.1)))))), ((cell_far (p := ⟨gb343, _, none⟩) NB332_343.out _).trans (((cell_far (p := ⟨gb343, _, none⟩) NB332_343.out _).trans (((cell_far (p := ⟨gb343, _, none⟩) NB332_343.out _).trans (hHeld.2.2.1)))))), ((cell_far (p := ⟨gb343, _, none⟩) (by first | exact Nat.ne_of_lt (Nat.lt_of_lt_of_le (by have := World.block_lt_of_cell? _ _ hw333_0; first | rwa [add_block] at this | exact this) GW343.out) | (rw [add_block]; exact Nat.ne_of_lt (Nat.lt_of_lt_of_le (by have := World.block_lt_of_cell? _ _ hw333_0; first | rwa [add_block] at this | exact this) GW343.out)) | (show (Addr.add _ _).block ≠ _; rw [add_block]; exact Nat.ne_of_lt (Nat.lt_of_lt_of_le (by have := World.block_lt_of_cell? _ _ hw333_0; first | rwa [add_block] at this | exact this) GW343.out)) | (dsimp only; exact Nat.ne_of_lt (Nat.lt_of_lt_of_le (by have := World.block_lt_of_cell? _ _ hw333_0; first | rwa [add_block] at this | exact this) GW343.out))) _).trans (((cell_far (p := ⟨gb343, _, none⟩) (by first | exact Nat.ne_of_lt (Nat.lt_of_lt_of_le (by have := World.block_lt_of_cell? _ _ hw333_0; first | rwa [add_block] at this | exact this) GW343.out) | (rw [add_block]; exact Nat.ne_of_lt (Nat.lt_of_lt_of_le (by have := World.block_lt_of_cell? _ _ hw333_0; first | rwa [add_block] at this | exact this) GW343.out)) | (show (Addr.add _ _).block ≠ _; rw [add_block]; exact Nat.ne_of_lt (Nat.lt_of_lt_of_le (by have := World.block_lt_of_cell? _ _ hw333_0; first | rwa [add_block] at this | exact this) GW343.out)) | (dsimp only; exact Nat.ne_of_lt (Nat.lt_of_lt_of_le (by have := World.block_lt_of_cell? _ _ hw333_0; first | rwa [add_block] at this | exact this) GW343.out))) _).trans (((cell_far (p := ⟨gb343, _, none⟩) (by first | exact Nat.ne_of_lt (Nat.lt_of_lt_of_le (by have := World.block_lt_of_cell? _ _ hw333_0; first | rwa [add_block] at this | exact this) GW343.out) | (rw [add_block]; exact Nat.ne_of_lt (Nat.lt_of_lt_of_le (by have := World.block_lt_of_cell? _ _ hw333_0; first | rwa [add_block] at this | exact this) GW343.out)) | (show (Addr.add _ _).block ≠ _; rw [add_block]; exact Nat.ne_of_lt (Nat.lt_of_lt_of_le (by have := World.block_lt_of_cell? _ _ hw333_0; first | rwa [add_block] at this | exact this) GW343.out)) | (dsimp only; exact Nat.ne_of_lt (Nat.lt_of_lt_of_le (by have := World.block_lt_of_cell? _ _ hw333_0; first | rwa [add_block] at this | exact this) GW343.out))) _).trans (hHeld.2.2.2.1)))))), ((cell_far (p := ⟨gb343, _, none⟩) (by first | exact Nat.ne_of_lt (Nat.lt_of_lt_of_le (by have := World.block_lt_of_cell? _ _ hw333_1; first | rwa [add_block] at this | exact this) GW343.out) | (rw [add_block]; exact Nat.ne_of_lt (Nat.lt_of_lt_of_le (by have := World.block_lt_of_cell? _ _ hw333_1; first | rwa [add_block] at this | exact this) GW343.out)) | (show (Addr.add _ _).block ≠ _; rw [add_block]; exact Nat.ne_of_lt (Nat.lt_of_lt_of_le (by have := World.block_lt_of_cell? _ _ hw333_1; first | rwa [add_block] at this | exact this) GW343.out)) | (dsimp only; exact Nat.ne_of_lt (Nat.lt_of_lt_of_le (by have := World.block_lt_of_cell? _ _ hw333_1; first | rwa [add_block] at this | exact this) GW343.out))) _).trans (((cell_far (p := ⟨gb343, _, none⟩) (by first | exact Nat.ne_of_lt (Nat.lt_of_lt_of_le (by have := World.block_lt_of_cell? _ _ hw333_1; first | rwa [add_block] at this | exact this) GW343.out) | (rw [add_block]; exact Nat.ne_of_lt (Nat.lt_of_lt_of_le (by have := World.block_lt_of_cell? _ _ hw333_1; first | rwa [add_block] at this | exact this) GW343.out)) | (show (Addr.add _ _).block ≠ _; rw [add_block]; exact Nat.ne_of_lt (Nat.lt_of_lt_of_le (by have := World.block_lt_of_cell? _ _ hw333_1; first | rwa [add_block] at this | exact this) GW343.out)) | (dsimp only; exact Nat.ne_of_lt (Nat.lt_of_lt_of_le (by have := World.block_lt_of_cell? _ _ hw333_1; first | rwa [add_block] at this | exact this) GW343.out))) _).trans (((cell_far (p := ⟨gb343, _, none⟩) (by first | exact Nat.ne_of_lt (Nat.lt_of_lt_of_le (by have := World.block_lt_of_cell? _ _ hw333_1; first | rwa [add_block] at this | exact this) GW343.out) | (rw [add_block]; exact Nat.ne_of_lt (Nat.lt_of_lt_of_le (by have := World.block_lt_of_cell? _ _ hw333_1; first | rwa [add_block] at this | exact this) GW343.out)) | (show (Addr.add _ _).block ≠ _; rw [add_block]; exact Nat.ne_of_lt (Nat.lt_of_lt_of_le (by have := World.block_lt_of_cell? _ _ hw333_1; first | rwa [add_block] at this | exact this) GW343.out)) | (dsimp only; exact Nat.ne_of_lt (Nat.lt_of_lt_of_le (by have := World.block_lt_of_cell? _ _ hw333_1; first | rwa [add_block] at this | exact this) GW343.out))) _).trans (hHeld.2.2.2.2.1)))))), ((cell_far (p := ⟨gb343, _, none⟩) (by first | exact Nat.ne_of_lt (Nat.lt_of_lt_of_le (by have := World.block_lt_of_cell? _ _ hw333_2; first | rwa [add_block] at this | exact this) GW343.out) | (rw [add_block]; exact Nat.ne_of_lt (Nat.lt_of_lt_of_le (by have := World.block_lt_of_cell? _ _ hw333_2; first | rwa [add_block] at this | exact this) GW343.out)) | (show (Addr.add _ _).block ≠ _; rw [add_block]; exact Nat.ne_of_lt (Nat.lt_of_lt_of_le (by have := World.block_lt_of_cell? _ _ hw333_2; first | rwa [add_block] at this | exact this) GW343.out)) | (dsimp only; exact Nat.ne_of_lt (Nat.lt_of_lt_of_le (by have := World.block_lt_of_cell? _ _ hw333_2; first | rwa [add_block] at this | exact this) GW343.out))) _).trans (((cell_far (p := ⟨gb343, _, none⟩) (by first | exact Nat.ne_of_lt (Nat.lt_of_lt_of_le (by have := World.block_lt_of_cell? _ _ hw333_2; first | rwa [add_block] at this | exact this) GW343.out) | (rw [add_block]; exact Nat.ne_of_lt (Nat.lt_of_lt_of_le (by have := World.block_lt_of_cell? _ _ hw333_2; first | rwa [add_block] at this | exact this) GW343.out)) | (show (Addr.add _ _).block ≠ _; rw [add_block]; exact Nat.ne_of_lt (Nat.lt_of_lt_of_le (by have := World.block_lt_of_cell? _ _ hw333_2; first | rwa [add_block] at this | exact this) GW343.out)) | (dsimp only; exact Nat.ne_of_lt (Nat.lt_of_lt_of_le (by have := World.block_lt_of_cell? _ _ hw333_2; first | rwa [add_block] at this | exact this) GW343.out))) _).trans (((cell_far (p := ⟨gb343, _, none⟩) (by first | exact Nat.ne_of_lt (Nat.lt_of_lt_of_le (by have := World.block_lt_of_cell? _ _ hw333_2; first | rwa [add_block] at this | exact this) GW343.out) | (rw [add_block]; exact Nat.ne_of_lt (Nat.lt_of_lt_of_le (by have := World.block_lt_of_cell? _ _ hw333_2; first | rwa [add_block] at this | exact this) GW343.out)) | (show (Addr.add _ _).block ≠ _; rw [add_block]; exact Nat.ne_of_lt (Nat.lt_of_lt_of_le (by have := World.block_lt_of_cell? _ _ hw333_2; first | rwa [add_block] at this | exact this) GW343.out)) | (dsimp only; exact Nat.ne_of_lt (Nat.lt_of_lt_of_le (by have := World.block_lt_of_cell? _ _ hw333_2; first | rwa [add_block] at this | exact this) GW343.out))) _).trans (hHeld.2.2.2.2.2.1)))))), ((cell_far (p := ⟨gb343, _, none⟩) (by first | exact Nat.ne_of_lt (Nat.lt_of_lt_of_le (by have := World.block_lt_of_cell? _ _ hw333_3; first | rwa [add_block] at this | exact this) GW343.out) | (rw [add_block]; exact Nat.ne_of_lt (Nat.lt_of_lt_of_le (by have := World.block_lt_of_cell? _ _ hw333_3; first | rwa [add_block] at this | exact this) GW343.out)) | (show (Addr.add _ _).block ≠ _; rw [add_block]; exact Nat.ne_of_lt (Nat.lt_of_lt_of_le (by have := World.block_lt_of_cell? _ _ hw333_3; first | rwa [add_block] at this | exact this) GW343.out)) | (dsimp only; exact Nat.ne_of_lt (Nat.lt_of_lt_of_le (by have := World.block_lt_of_cell? _ _ hw333_3; first | rwa [add_block] at this | exact this) GW343.out))) _).trans (((cell_far (p := ⟨gb343, _, none⟩) (by first | exact Nat.ne_of_lt (Nat.lt_of_lt_of_le (by have := World.block_lt_of_cell? _ _ hw333_3; first | rwa [add_block] at this | exact this) GW343.out) | (rw [add_block]; exact Nat.ne_of_lt (Nat.lt_of_lt_of_le (by have := World.block_lt_of_cell? _ _ hw333_3; first | rwa [add_block] at this | exact this) GW343.out)) | (show (Addr.add _ _).block ≠ _; rw [add_block]; exact Nat.ne_of_lt (Nat.lt_of_lt_of_le (by have := World.block_lt_of_cell? _ _ hw333_3; first | rwa [add_block] at this | exact this) GW343.out)) | (dsimp only; exact Nat.ne_of_lt (Nat.lt_of_lt_of_le (by have := World.block_lt_of_cell? _ _ hw333_3; first | rwa [add_block] at this | exact this) GW343.out))) _).trans (((cell_far (p := ⟨gb343, _, none⟩) (by first | exact Nat.ne_of_lt (Nat.lt_of_lt_of_le (by have := World.block_lt_of_cell? _ _ hw333_3; first | rwa [add_block] at this | exact this) GW343.out) | (rw [add_block]; exact Nat.ne_of_lt (Nat.lt_of_lt_of_le (by have := World.block_lt_of_cell? _ _ hw333_3; first | rwa [add_block] at this | exact this) GW343.out)) | (show (Addr.add _ _).block ≠ _; rw [add_block]; exact Nat.ne_of_lt (Nat.lt_of_lt_of_le (by have := World.block_lt_of_cell? _ _ hw333_3; first | rwa [add_block] at this | exact this) GW343.out)) | (dsimp only; exact Nat.ne_of_lt (Nat.lt_of_lt_of_le (by have := World.block_lt_of_cell? _ _ hw333_3; first | rwa [add_block] at this | exact this) GW343.out))) _).trans (hHeld.2.2.2.2.2.2.1)))))), ((cell_far (p := ⟨gb343, _, none⟩) (by first | exact Nat.ne_of_lt (Nat.lt_of_lt_of_le (by have := World.block_lt_of_cell? _ _ hw334_0; first | rwa [add_block] at this | exact this) GW343.out) | (rw [add_block]; exact Nat.ne_of_lt (Nat.lt_of_lt_of_le (by have := World.block_lt_of_cell? _ _ hw334_0; first | rwa [add_block] at this | exact this) GW343.out)) | (show (Addr.add _ _).block ≠ _; rw [add_block]; exact Nat.ne_of_lt (Nat.lt_of_lt_of_le (by have := World.block_lt_of_cell? _ _ hw334_0; first | rwa [add_block] at this | exact this) GW343.out)) | (dsimp only; exact Nat.ne_of_lt (Nat.lt_of_lt_of_le (by have := World.block_lt_of_cell? _ _ hw334_0; first | rwa [add_block] at this | exact this) GW343.out))) _).trans (((cell_far (p := ⟨gb343, _, none⟩) (by first | exact Nat.ne_of_lt (Nat.lt_of_lt_of_le (by have := World.block_lt_of_cell? _ _ hw334_0; first | rwa [add_block] at this | exact this) GW343.out) | (rw [add_block]; exact Nat.ne_of_lt (Nat.lt_of_lt_of_le (by have := World.block_lt_of_cell? _ _ hw334_0; first | rwa [add_block] at this | exact this) GW343.out)) | (show (Addr.add _ _).block ≠ _; rw [add_block]; exact Nat.ne_of_lt (Nat.lt_of_lt_of_le (by have := World.block_lt_of_cell? _ _ hw334_0; first | rwa [add_block] at this | exact this) GW343.out)) | (dsimp only; exact Nat.ne_of_lt (Nat.lt_of_lt_of_le (by have := World.block_lt_of_cell? _ _ hw334_0; first | rwa [add_block] at this | exact this) GW343.out))) _).trans (((cell_far (p := ⟨gb343, _, none⟩) (by first | exact Nat.ne_of_lt (Nat.lt_of_lt_of_le (by have := World.block_lt_of_cell? _ _ hw334_0; first | rwa [add_block] at this | exact this) GW343.out) | (rw [add_block]; exact Nat.ne_of_lt (Nat.lt_of_lt_of_le (by have := World.block_lt_of_cell? _ _ hw334_0; first | rwa [add_block] at this | exact this) GW343.out)) | (show (Addr.add _ _).block ≠ _; rw [add_block]; exact Nat.ne_of_lt (Nat.lt_of_lt_of_le (by have := World.block_lt_of_cell? _ _ hw334_0; first | rwa [add_block] at this | exact this) GW343.out)) | (dsimp only; exact Nat.ne_of_lt (Nat.lt_of_lt_of_le (by have := World.block_lt_of_cell? _ _ hw334_0; first | rwa [add_block] at this | exact this) GW343.out))) _).trans (hHeld.2.2.2.2.2.2.2.1)))))), ((cell_far (p := ⟨gb343, _, none⟩) (by first | exact Nat.ne_of_lt (Nat.lt_of_lt_of_le (by have := World.block_lt_of_cell? _ _ hw334_1; first | rwa [add_block] at this | exact this) GW343.out) | (rw [add_block]; exact Nat.ne_of_lt (Nat.lt_of_lt_of_le (by have := World.block_lt_of_cell? _ _ hw334_1; first | rwa [add_block] at this | exact this) GW343.out)) | (show (Addr.add _ _).block ≠ _; rw [add_block]; exact Nat.ne_of_lt (Nat.lt_of_lt_of_le (by have := World.block_lt_of_cell? _ _ hw334_1; first | rwa [add_block] at this | exact this) GW343.out)) | (dsimp only; exact Nat.ne_of_lt (Nat.lt_of_lt_of_le (by have := World.block_lt_of_cell? _ _ hw334_1; first | rwa [add_block] at this | exact this) GW343.out))) _).trans (((cell_far (p := ⟨gb343, _, none⟩) (by first | exact Nat.ne_of_lt (Nat.lt_of_lt_of_le (by have := World.block_lt_of_cell? _ _ hw334_1; first | rwa [add_block] at this | exact this) GW343.out) | (rw [add_block]; exact Nat.ne_of_lt (Nat.lt_of_lt_of_le (by have := World.block_lt_of_cell? _ _ hw334_1; first | rwa [add_block] at this | exact this) GW343.out)) | (show (Addr.add _ _).block ≠ _; rw [add_block]; exact Nat.ne_of_lt (Nat.lt_of_lt_of_le (by have := World.block_lt_of_cell? _ _ hw334_1; first | rwa [add_block] at this | exact this) GW343.out)) | (dsimp only; exact Nat.ne_of_lt (Nat.lt_of_lt_of_le (by have := World.block_lt_of_cell? _ _ hw334_1; first | rwa [add_block] at this | exact this) GW343.out))) _).trans (((cell_far (p := ⟨gb343, _, none⟩) (by first | exact Nat.ne_of_lt (Nat.lt_of_lt_of_le (by have := World.block_lt_of_cell? _ _ hw334_1; first | rwa [add_block] at this | exact this) GW343.out) | (rw [add_block]; exact Nat.ne_of_lt (Nat.lt_of_lt_of_le (by have := World.block_lt_of_cell? _ _ hw334_1; first | rwa [add_block] at this | exact this) GW343.out)) | (show (Addr.add _ _).block ≠ _; rw [add_block]; exact Nat.ne_of_lt (Nat.lt_of_lt_of_le (by have := World.block_lt_of_cell? _ _ hw334_1; first | rwa [add_block] at this | exact this) GW343.out)) | (dsimp only; exact Nat.ne_of_lt (Nat.lt_of_lt_of_le (by have := World.block_lt_of_cell? _ _ hw334_1; first | rwa [add_block] at this | exact this) GW343.out))) _).trans (hHeld.2.2.2.2.2.2.2.2.1)))))), ((cell_far (p := ⟨gb343, _, none⟩) (by first | exact Nat.ne_of_lt (Nat.lt_of_lt_of_le (by have := World.block_lt_of_cell? _ _ hw334_2; first | rwa [add_block] at this | exact this) GW343.out) | (rw [add_block]; exact Nat.ne_of_lt (Nat.lt_of_lt_of_le (by have := World.block_lt_of_cell? _ _ hw334_2; first | rwa [add_block] at this | exact this) GW343.out)) | (show (Addr.add _ _).block ≠ _; rw [add_block]; exact Nat.ne_of_lt (Nat.lt_of_lt_of_le (by have := World.block_lt_of_cell? _ _ hw334_2; first | rwa [add_block] at this | exact this) GW343.out)) | (dsimp only; exact Nat.ne_of_lt (Nat.lt_of_lt_of_le (by have := World.block_lt_of_cell? _ _ hw334_2; first | rwa [add_block] at this | exact this) GW343.out))) _).trans (((cell_far (p := ⟨gb343, _, none⟩) (by first | exact Nat.ne_of_lt (Nat.lt_of_lt_of_le (by have := World.block_lt_of_cell? _ _ hw334_2; first | rwa [add_block] at this | exact this) GW343.out) | (rw [add_block]; exact Nat.ne_of_lt (Nat.lt_of_lt_of_le (by have := World.block_lt_of_cell? _ _ hw334_2; first | rwa [add_block] at this | exact this) GW343.out)) | (show (Addr.add _ _).block ≠ _; rw [add_block]; exact Nat.ne_of_lt (Nat.lt_of_lt_of_le (by have := World.block_lt_of_cell? _ _ hw334_2; first | rwa [add_block] at this | exact this) GW343.out)) | (dsimp only; exact Nat.ne_of_lt (Nat.lt_of_lt_of_le (by have := World.block_lt_of_cell? _ _ hw334_2; first | rwa [add_block] at this | exact this) GW343.out))) _).trans (((cell_far (p := ⟨gb343, _, none⟩) (by first | exact Nat.ne_of_lt (Nat.lt_of_lt_of_le (by have := World.block_lt_of_cell? _ _ hw334_2; first | rwa [add_block] at this | exact this) GW343.out) | (rw [add_block]; exact Nat.ne_of_lt (Nat.lt_of_lt_of_le (by have := World.block_lt_of_cell? _ _ hw334_2; first | rwa [add_block] at this | exact this) GW343.out)) | (show (Addr.add _ _).block ≠ _; rw [add_block]; exact Nat.ne_of_lt (Nat.lt_of_lt_of_le (by have := World.block_lt_of_cell? _ _ hw334_2; first | rwa [add_block] at this | exact this) GW343.out)) | (dsimp only; exact Nat.ne_of_lt (Nat.lt_of_lt_of_le (by have := World.block_lt_of_cell? _ _ hw334_2; first | rwa [add_block] at this | exact this) GW343.out))) _).trans (hHeld.2.2.2.2.2.2.2.2.2.1)))))), ((cell_far (p := ⟨gb343, _, none⟩) (by first | exact Nat.ne_of_lt (Nat.lt_of_lt_of_le (by have := World.block_lt_of_cell? _ _ hw334_3; first | rwa [add_block] at this | exact this) GW343.out) | (rw [add_block]; exact Nat.ne_of_lt (Nat.lt_of_lt_of_le (by have := World.block_lt_of_cell? _ _ hw334_3; first | rwa [add_block] at this | exact this) GW343.out)) | (show (Addr.add _ _).block ≠ _; rw [add_block]; exact Nat.ne_of_lt (Nat.lt_of_lt_of_le (by have := World.block_lt_of_cell? _ _ hw334_3; first | rwa [add_block] at this | exact this) GW343.out)) | (dsimp only; exact Nat.ne_of_lt (Nat.lt_of_lt_of_le (by have := World.block_lt_of_cell? _ _ hw334_3; first | rwa [add_block] at this | exact this) GW343.out))) _).trans (((cell_far (p := ⟨gb343, _, none⟩) (by first | exact Nat.ne_of_lt (Nat.lt_of_lt_of_le (by have := World.block_lt_of_cell? _ _ hw334_3; first | rwa [add_block] at this | exact this) GW343.out) | (rw [add_block]; exact Nat.ne_of_lt (Nat.lt_of_lt_of_le (by have := World.block_lt_of_cell? _ _ hw334_3; first | rwa [add_block] at this | exact this) GW343.out)) | (show (Addr.add _ _).block ≠ _; rw [add_block]; exact Nat.ne_of_lt (Nat.lt_of_lt_of_le (by have := World.block_lt_of_cell? _ _ hw334_3; first | rwa [add_block] at this | exact this) GW343.out)) | (dsimp only; exact Nat.ne_of_lt (Nat.lt_of_lt_of_le (by have := World.block_lt_of_cell? _ _ hw334_3; first | rwa [add_block] at this | exact this) GW343.out))) _).trans (((cell_far (p := ⟨gb343, _, none⟩) (by first | exact Nat.ne_of_lt (Nat.lt_of_lt_of_le (by have := World.block_lt_of_cell? _ _ hw334_3; first | rwa [add_block] at this | exact this) GW343.out) | (rw [add_block]; exact Nat.ne_of_lt (Nat.lt_of_lt_of_le (by have := World.block_lt_of_cell? _ _ hw334_3; first | rwa [add_block] at this | exact this) GW343.out)) | (show (Addr.add _ _).block ≠ _; rw [add_block]; exact Nat.ne_of_lt (Nat.lt_of_lt_of_le (by have := World.block_lt_of_cell? _ _ hw334_3; first | rwa [add_block] at this | exact this) GW343.out)) | (dsimp only; exact Nat.ne_of_lt (Nat.lt_of_lt_of_le (by have := World.block_lt_of_cell? _ _ hw334_3; first | rwa [add_block] at this | exact this) GW343.out))) _).trans (hHeld.2.2.2.2.2.2.2.2.2.2.1)))))), ((cell_far (p := ⟨gb343, _, none⟩) (by first | exact Nat.ne_of_lt (Nat.lt_of_lt_of_le (by have := World.block_lt_of_cell? _ _ hw335_0; first | rwa [add_block] at this | exact this) GW343.out) | (rw [add_block]; exact Nat.ne_of_lt (Nat.lt_of_lt_of_le (by have := World.block_lt_of_cell? _ _ hw335_0; first | rwa [add_block] at this | exact this) GW343.out)) | (show (Addr.add _ _).block ≠ _; rw [add_block]; exact Nat.ne_of_lt (Nat.lt_of_lt_of_le (by have := World.block_lt_of_cell? _ _ hw335_0; first | rwa [add_block] at this | exact this) GW343.out)) | (dsimp only; exact Nat.ne_of_lt (Nat.lt_of_lt_of_le (by have := World.block_lt_of_cell? _ _ hw335_0; first | rwa [add_block] at this | exact this) GW343.out))) _).trans (((cell_far (p := ⟨gb343, _, none⟩) (by first | exact Nat.ne_of_lt (Nat.lt_of_lt_of_le (by have := World.block_lt_of_cell? _ _ hw335_0; first | rwa [add_block] at this | exact this) GW343.out) | (rw [add_block]; exact Nat.ne_of_lt (Nat.lt_of_lt_of_le (by have := World.block_lt_of_cell? _ _ hw335_0; first | rwa [add_block] at this | exact this) GW343.out)) | (show (Addr.add _ _).block ≠ _; rw [add_block]; exact Nat.ne_of_lt (Nat.lt_of_lt_of_le (by have := World.block_lt_of_cell? _ _ hw335_0; first | rwa [add_block] at this | exact this) GW343.out)) | (dsimp only; exact Nat.ne_of_lt (Nat.lt_of_lt_of_le (by have := World.block_lt_of_cell? _ _ hw335_0; first | rwa [add_block] at this | exact this) GW343.out))) _).trans (((cell_far (p := ⟨gb343, _, none⟩) (by first | exact Nat.ne_of_lt (Nat.lt_of_lt_of_le (by have := World.block_lt_of_cell? _ _ hw335_0; first | rwa [add_block] at this | exact this) GW343.out) | (rw [add_block]; exact Nat.ne_of_lt (Nat.lt_of_lt_of_le (by have := World.block_lt_of_cell? _ _ hw335_0; first | rwa [add_block] at this | exact this) GW343.out)) | (show (Addr.add _ _).block ≠ _; rw [add_block]; exact Nat.ne_of_lt (Nat.lt_of_lt_of_le (by have := World.block_lt_of_cell? _ _ hw335_0; first | rwa [add_block] at this | exact this) GW343.out)) | (dsimp only; exact Nat.ne_of_lt (Nat.lt_of_lt_of_le (by have := World.block_lt_of_cell? _ _ hw335_0; first | rwa [add_block] at this | exact this) GW343.out))) _).trans (hHeld.2.2.2.2.2.2.2.2.2.2.2.1)))))), ((cell_far (p := ⟨gb343, _, none⟩) (by first | exact Nat.ne_of_lt (Nat.lt_of_lt_of_le (by have := World.block_lt_of_cell? _ _ hw335_1; first | rwa [add_block] at this | exact this) GW343.out) | (rw [add_block]; exact Nat.ne_of_lt (Nat.lt_of_lt_of_le (by have := World.block_lt_of_cell? _ _ hw335_1; first | rwa [add_block] at this | exact this) GW343.out)) | (show (Addr.add _ _).block ≠ _; rw [add_block]; exact Nat.ne_of_lt (Nat.lt_of_lt_of_le (by have := World.block_lt_of_cell? _ _ hw335_1; first | rwa [add_block] at this | exact this) GW343.out)) | (dsimp only; exact Nat.ne_of_lt (Nat.lt_of_lt_of_le (by have := World.block_lt_of_cell? _ _ hw335_1; first | rwa [add_block] at this | exact this) GW343.out))) _).trans (((cell_far (p := ⟨gb343, _, none⟩) (by first | exact Nat.ne_of_lt (Nat.lt_of_lt_of_le (by have := World.block_lt_of_cell? _ _ hw335_1; first | rwa [add_block] at this | exact this) GW343.out) | (rw [add_block]; exact Nat.ne_of_lt (Nat.lt_of_lt_of_le (by have := World.block_lt_of_cell? _ _ hw335_1; first | rwa [add_block] at this | exact this) GW343.out)) | (show (Addr.add _ _).block ≠ _; rw [add_block]; exact Nat.ne_of_lt (Nat.lt_of_lt_of_le (by have := World.block_lt_of_cell? _ _ hw335_1; first | rwa [add_block] at this | exact this) GW343.out)) | (dsimp only; exact Nat.ne_of_lt (Nat.lt_of_lt_of_le (by have := World.block_lt_of_cell? _ _ hw335_1; first | rwa [add_block] at this | exact this) GW343.out))) _).trans (((cell_far (p := ⟨gb343, _, none⟩) (by first | exact Nat.ne_of_lt (Nat.lt_of_lt_of_le (by have := World.block_lt_of_cell? _ _ hw335_1; first | rwa [add_block] at this | exact this) GW343.out) | (rw [add_block]; exact Nat.ne_of_lt (Nat.lt_of_lt_of_le (by have := World.block_lt_of_cell? _ _ hw335_1; first | rwa [add_block] at this | exact this) GW343.out)) | (show (Addr.add _ _).block ≠ _; rw [add_block]; exact Nat.ne_of_lt (Nat.lt_of_lt_of_le (by have := World.block_lt_of_cell? _ _ hw335_1; first | rwa [add_block] at this | exact this) GW343.out)) | (dsimp only; exact Nat.ne_of_lt (Nat.lt_of_lt_of_le (by have := World.block_lt_of_cell? _ _ hw335_1; first | rwa [add_block] at this | exact this) GW343.out))) _).trans (hHeld.2.2.2.2.2.2.2.2.2.2.2.2.1)))))), ((cell_far (p := ⟨gb343, _, none⟩) (by first | exact Nat.ne_of_lt (Nat.lt_of_lt_of_le (by have := World.block_lt_of_cell? _ _ hw335_2; first | rwa [add_block] at this | exact this) GW343.out) | (rw [add_block]; exact Nat.ne_of_lt (Nat.lt_of_lt_of_le (by have := World.block_lt_of_cell? _ _ hw335_2; first | rwa [add_block] at this | exact this) GW343.out)) | (show (Addr.add _ _).block ≠ _; rw [add_block]; exact Nat.ne_of_lt (Nat.lt_of_lt_of_le (by have := World.block_lt_of_cell? _ _ hw335_2; first | rwa [add_block] at this | exact this) GW343.out)) | (dsimp only; exact Nat.ne_of_lt (Nat.lt_of_lt_of_le (by have := World.block_lt_of_cell? _ _ hw335_2; first | rwa [add_block] at this | exact this) GW343.out))) _).trans (((cell_far (p := ⟨gb343, _, none⟩) (by first | exact Nat.ne_of_lt (Nat.lt_of_lt_of_le (by have := World.block_lt_of_cell? _ _ hw335_2; first | rwa [add_block] at this | exact this) GW343.out) | (rw [add_block]; exact Nat.ne_of_lt (Nat.lt_of_lt_of_le (by have := World.block_lt_of_cell? _ _ hw335_2; first | rwa [add_block] at this | exact this) GW343.out)) | (show (Addr.add _ _).block ≠ _; rw [add_block]; exact Nat.ne_of_lt (Nat.lt_of_lt_of_le (by have := World.block_lt_of_cell? _ _ hw335_2; first | rwa [add_block] at this | exact this) GW343.out)) | (dsimp only; exact Nat.ne_of_lt (Nat.lt_of_lt_of_le (by have := World.block_lt_of_cell? _ _ hw335_2; first | rwa [add_block] at this | exact this) GW343.out))) _).trans (((cell_far (p := ⟨gb343, _, none⟩) (by first | exact Nat.ne_of_lt (Nat.lt_of_lt_of_le (by have := World.block_lt_of_cell? _ _ hw335_2; first | rwa [add_block] at this | exact this) GW343.out) | (rw [add_block]; exact Nat.ne_of_lt (Nat.lt_of_lt_of_le (by have := World.block_lt_of_cell? _ _ hw335_2; first | rwa [add_block] at this | exact this) GW343.out)) | (show (Addr.add _ _).block ≠ _; rw [add_block]; exact Nat.ne_of_lt (Nat.lt_of_lt_of_le (by have := World.block_lt_of_cell? _ _ hw335_2; first | rwa [add_block] at this | exact this) GW343.out)) | (dsimp only; exact Nat.ne_of_lt (Nat.lt_of_lt_of_le (by have := World.block_lt_of_cell? _ _ hw335_2; first | rwa [add_block] at this | exact this) GW343.out))) _).trans (hHeld.2.2.2.2.2.2.2.2.2.2.2.2.2.1)))))), ((cell_far (p := ⟨gb343, _, none⟩) (by first | exact Nat.ne_of_lt (Nat.lt_of_lt_of_le (by have := World.block_lt_of_cell? _ _ hw335_3; first | rwa [add_block] at this | exact this) GW343.out) | (rw [add_block]; exact Nat.ne_of_lt (Nat.lt_of_lt_of_le (by have := World.block_lt_of_cell? _ _ hw335_3; first | rwa [add_block] at this | exact this) GW343.out)) | (show (Addr.add _ _).block ≠ _; rw [add_block]; exact Nat.ne_of_lt (Nat.lt_of_lt_of_le (by have := World.block_lt_of_cell? _ _ hw335_3; first | rwa [add_block] at this | exact this) GW343.out)) | (dsimp only; exact Nat.ne_of_lt (Nat.lt_of_lt_of_le (by have := World.block_lt_of_cell? _ _ hw335_3; first | rwa [add_block] at this | exact this) GW343.out))) _).trans (((cell_far (p := ⟨gb343, _, none⟩) (by first | exact Nat.ne_of_lt (Nat.lt_of_lt_of_le (by have := World.block_lt_of_cell? _ _ hw335_3; first | rwa [add_block] at this | exact this) GW343.out) | (rw [add_block]; exact Nat.ne_of_lt (Nat.lt_of_lt_of_le (by have := World.block_lt_of_cell? _ _ hw335_3; first | rwa [add_block] at this | exact this) GW343.out)) | (show (Addr.add _ _).block ≠ _; rw [add_block]; exact Nat.ne_of_lt (Nat.lt_of_lt_of_le (by have := World.block_lt_of_cell? _ _ hw335_3; first | rwa [add_block] at this | exact this) GW343.out)) | (dsimp only; exact Nat.ne_of_lt (Nat.lt_of_lt_of_le (by have := World.block_lt_of_cell? _ _ hw335_3; first | rwa [add_block] at this | exact this) GW343.out))) _).trans (((cell_far (p := ⟨gb343, _, none⟩) (by first | exact Nat.ne_of_lt (Nat.lt_of_lt_of_le (by have := World.block_lt_of_cell? _ _ hw335_3; first | rwa [add_block] at this | exact this) GW343.out) | (rw [add_block]; exact Nat.ne_of_lt (Nat.lt_of_lt_of_le (by have := World.block_lt_of_cell? _ _ hw335_3; first | rwa [add_block] at this | exact this) GW343.out)) | (show (Addr.add _ _).block ≠ _; rw [add_block]; exact Nat.ne_of_lt (Nat.lt_of_lt_of_le (by have := World.block_lt_of_cell? _ _ hw335_3; first | rwa [add_block] at this | exact this) GW343.out)) | (dsimp only; exact Nat.ne_of_lt (Nat.lt_of_lt_of_le (by have := World.block_lt_of_cell? _ _ hw335_3; first | rwa [add_block] at this | exact this) GW343.out))) _).trans (hHeld.2.2.2.2.2.2.2.2.2.2.2.2.2.2))))))⟩ (fun hHeld => ?_)
             clear hK K
             refine pure_ (i := 23) (N := some 9) (v := ?_) (a' := ?_) #[true, true, true, true, true, true, true, true, true, true, true, true, true, true, true, true, true, true, true, true, true, true, true, true, false] rfl rfl (any_of HT_.out (by kernel_rfl)) (fun _ _ _ h => h) (Or.inl ⟨by rfl, ?_⟩) ?_ ?_
             rotate_left
             ·
              intro w'
              go_simp
              with_reducible rfl
             rotate_left
             ·
              simp only [Act.put, List.setIfInBounds_toArray, List.set_cons_zero, List.set_cons_succ, i64_w, i32_w]
              rfl
             refine pure_ (i := 24) (N := some 10) (v := ?_) (a' := ?_) #[true, true, true, true, true, true, true, true, true, true, true, true, true, true, true, true, true, true, true, true, true, true, true, true, true] rfl rfl (any_of HT_.out (by kernel_rfl)) (fun _ _ _ h => h) (Or.inl ⟨by rfl, ?_⟩) ?_ ?_
             rotate_left
             ·
              intro w'
              go_simp
              with_reducible rfl
             rotate_left
             ·
              simp only [Act.put, List.setIfInBounds_toArray, List.set_cons_zero, List.set_cons_succ, i64_w, i32_w]
              rfl
             refine done_ (done_of HT_.out (by kernel_rfl)) ?_
             obtain ⟨Ao32, co32, eo32⟩ := Kd.R_slice HO_6.out
             subst eo32
             have hnb33 := NB343_332.out
             have hnc33 := NB332_343.out
             have hcz34_0 : w27.cell? ⟨gb343, 0, none⟩ = some (.int .i64 0) := (blk_cell BK343.out 0).trans rfl
             have hcz34_1 : w27.cell? ⟨gb343, 1, none⟩ = some (.int .i64 0) := (blk_cell BK343.out 1).trans rfl
             have hcz34_2 : w27.cell? ⟨gb343, 2, none⟩ = some (.slice none 0 0) := (blk_cell BK343.out 2).trans rfl
             have hfz34_0 := blk_frozen BK343.out 0
             have hfz34_1 := blk_frozen BK343.out 1
             have hfz34_2 := blk_frozen BK343.out 2
             try go_wp2
             have n0_ : Aside0 (Kd.R k23 23 (((w27.setCell ⟨gb343, 0, none⟩ (.int .i64 t336)).setCell ⟨gb343, 1, none⟩ (.int .i64 t337)).setCell ⟨gb343, 2, none⟩ (.slice Ao30 t338.length co30)) w.heap.size (fun _ => True) (.slice Ao32 x6_2.length co32) x6_2) := ⟨by (with_reducible repeat (first | apply Kd.R_alloc | apply Kd.R_drewN | apply Kd.R_drew)); exact Kd.R_mono (Kd.R_far (p := ⟨gb343, 2, none⟩) (Kd.R_far (p := ⟨gb343, 1, none⟩) (Kd.R_far (p := ⟨gb343, 0, none⟩) (Kd.R_types HO_6.out BK343.out (by decide)) (fun _ hk => hk.2) (.int .i64 t336)) (fun _ hk => hk.2) (.int .i64 t337)) (fun _ hk => hk.2) (.slice Ao30 t338.length co30)) (fun _ hk => trivial)⟩
             have n1_ : Aside0 (Kd.R (Kd.int .u8) 5 (((w27.setCell ⟨gb343, 0, none⟩ (.int .i64 t336)).setCell ⟨gb343, 1, none⟩ (.int .i64 t337)).setCell ⟨gb343, 2, none⟩ (.slice Ao30 t338.length co30)) w.heap.size (fun k_ => some k_ ≠ (.slice Ao30 t338.length co30 : Value).ownBlock) (.slice Ao23 x333002_2.length co23) x333002_2) := ⟨by (with_reducible repeat (first | apply Kd.R_alloc | apply Kd.R_drewN | apply Kd.R_drew)); exact Kd.R_mono (Kd.R_far (p := ⟨gb343, 2, none⟩) (Kd.R_far (p := ⟨gb343, 1, none⟩) (Kd.R_far (p := ⟨gb343, 0, none⟩) (Kd.R_types HO_333002.out BK343.out (by decide)) (fun _ hk => hk.2) (.int .i64 t336)) (fun _ hk => hk.2) (.int .i64 t337)) (fun _ hk => hk.2) (.slice Ao30 t338.length co30)) (fun _ hk => hk.1)⟩
             have n2_ : Aside0 (Kd.R (Kd.int .u8) 5 (((w27.setCell ⟨gb343, 0, none⟩ (.int .i64 t336)).setCell ⟨gb343, 1, none⟩ (.int .i64 t337)).setCell ⟨gb343, 2, none⟩ (.slice Ao30 t338.length co30)) w.heap.size (fun k_ => some k_ ≠ (.slice Ao23 x333002_2.length co23 : Value).ownBlock) (.slice Ao30 t338.length co30) t338) := ⟨by (with_reducible repeat (first | apply Kd.R_alloc | apply Kd.R_drewN | apply Kd.R_drew)); exact Kd.R_mono (Kd.R_far (p := ⟨gb343, 2, none⟩) (Kd.R_far (p := ⟨gb343, 1, none⟩) (Kd.R_far (p := ⟨gb343, 0, none⟩) (Kd.R_types HO340.out BK343.out (by decide)) (fun _ hk => hk.2) (.int .i64 t336)) (fun _ hk => hk.2) (.int .i64 t337)) (fun _ hk => hk.2) (.slice Ao30 t338.length co30)) (fun _ hk => hk.1)⟩
             have n3_ : Aside0 ((((w27.setCell ⟨gb343, 0, none⟩ (.int .i64 t336)).setCell ⟨gb343, 1, none⟩ (.int .i64 t337)).setCell ⟨gb343, 2, none⟩ (.slice Ao30 t338.length co30)).heap[gb332]? = some (.cells #[.int .i64 x333000_2, .int .i64 x333001_2, .slice Ao23 x333002_2.length co23] 43 (0, 0))) := ⟨by refine Hlp.bp (blk_far ?_ NB332_343.out _); refine Hlp.bp (blk_far ?_ NB332_343.out _); refine Hlp.bp (blk_far ?_ NB332_343.out _); exact Hlp.bp BK332.out⟩
             have n4_ : Aside0 ((((w27.setCell ⟨gb343, 0, none⟩ (.int .i64 t336)).setCell ⟨gb343, 1, none⟩ (.int .i64 t337)).setCell ⟨gb343, 2, none⟩ (.slice Ao30 t338.length co30)).heap[gb343]? = some (.cells #[.int .i64 t336, .int .i64 t337, .slice Ao30 t338.length co30] 43 (0, 0))) := ⟨by refine Hlp.bp (blk_put (cs := #[.int .i64 t336, .int .i64 t337, .slice none 0 0]) ?_ 2 _ rfl); refine Hlp.bp (blk_put (cs := #[.int .i64 t336, .int .i64 0, .slice none 0 0]) ?_ 1 _ rfl); refine Hlp.bp (blk_put (cs := #[.int .i64 0, .int .i64 0, .slice none 0 0]) ?_ 0 _ rfl); exact Hlp.bp BK343.out⟩
             have n5_ : Aside0 (Below w.heap.size w (((w27.setCell ⟨gb343, 0, none⟩ (.int .i64 t336)).setCell ⟨gb343, 1, none⟩ (.int .i64 t337)).setCell ⟨gb343, 2, none⟩ (.slice Ao30 t338.length co30))) := ⟨Hlp.bl HB.out⟩
             (try clear HO_6)
             (try clear HO_333002)
             (try clear HO340)
             (try clear BK332)
             (try clear BK343)
             (try clear HB)
             generalize (((w27.setCell ⟨gb343, 0, none⟩ (.int .i64 t336)).setCell ⟨gb343, 1, none⟩ (.int .i64 t337)).setCell ⟨gb343, 2, none⟩ (.slice Ao30 t338.length co30)) = w35 at n0_ n1_ n2_ n3_ n4_ n5_ ⊢
             have HO_6 := n0_
             have HO_333002 := n1_
             have HO340 := n2_
             have BK332 := n3_
             have BK343 := n4_
             have HB := n5_
             clear n0_ n1_ n2_ n3_ n4_ n5_
             replace HO_6 := Aside0.mk (Kd.R_drew HO_6.out)
             replace HO_333002 := Aside0.mk (Kd.R_drew HO_333002.out)
             replace HO340 := Aside0.mk (Kd.R_drew HO340.out)
             replace BK332 := Aside0.mk (blk_drew BK332.out)
             replace BK343 := Aside0.mk (blk_drew BK343.out)
             replace HB := Aside0.mk (below_drew1 HB.out)
             have p344 : 0 ≤ (x7_2 : Int) := of_decide_eq_true (by first | (with_reducible assumption) | assumption)
             have q344 : x7_2 < (l1.length : Int) := of_decide_eq_true (by first | (with_reducible assumption) | assumption)
             obtain ⟨ad344, e344, hx344_0, hx344_1, hx344_2, hx344_3⟩ := at_T23 HR1.out x7_2 p344 q344
             have hw344_3 := hx344_3
             have hw344_2 := hx344_2
             have hw344_1 := hx344_1
             have hw344_0 := hx344_0
             obtain rfl : ad333 = ad344 := (by injection e344)
             replace hx344_0 := (HB.out.cell (World.block_lt_of_cell? w _ hx344_0)).trans hx344_0
             replace hx344_1 := (HB.out.cell (World.block_lt_of_cell? w _ hx344_1)).trans hx344_1
             replace hx344_2 := (HB.out.cell (World.block_lt_of_cell? w _ hx344_2)).trans hx344_2
             replace hx344_3 := (HB.out.cell (World.block_lt_of_cell? w _ hx344_3)).trans hx344_3
             replace p344 := eq_true p344
             replace q344 := eq_true q344
             have p345 : 0 ≤ (x7_2 : Int) := of_decide_eq_true (by first | (with_reducible assumption) | assumption)
             have q345 : x7_2 < (l1.length : Int) := of_decide_eq_true (by first | (with_reducible assumption) | assumption)
             obtain ⟨ad345, e345, hx345_0, hx345_1, hx345_2, hx345_3⟩ := at_T23 HR1.out x7_2 p345 q345
             have hw345_3 := hx345_3
             have hw345_2 := hx345_2
             have hw345_1 := hx345_1
             have hw345_0 := hx345_0
             obtain rfl : ad333 = ad345 := (by injection e345)
             replace hx345_0 := (HB.out.cell (World.block_lt_of_cell? w _ hx345_0)).trans hx345_0
             replace hx345_1 := (HB.out.cell (World.block_lt_of_cell? w _ hx345_1)).trans hx345_1
             replace hx345_2 := (HB.out.cell (World.block_lt_of_cell? w _ hx345_2)).trans hx345_2
             replace hx345_3 := (HB.out.cell (World.block_lt_of_cell? w _ hx345_3)).trans hx345_3
             replace p345 := eq_true p345
             replace q345 := eq_true q345
             have p346 : 0 ≤ (x7_2 : Int) := of_decide_eq_true (by first | (with_reducible assumption) | assumption)
             have q346 : x7_2 < (l1.length : Int) := of_decide_eq_true (by first | (with_reducible assumption) | assumption)
             obtain ⟨ad346, e346, hx346_0, hx346_1, hx346_2, hx346_3⟩ := at_T23 HR1.out x7_2 p346 q346
             have hw346_3 := hx346_3
             have hw346_2 := hx346_2
             have hw346_1 := hx346_1
             have hw346_0 := hx346_0
             obtain rfl : ad333 = ad346 := (by injection e346)
             replace hx346_0 := (HB.out.cell (World.block_lt_of_cell? w _ hx346_0)).trans hx346_0
             replace hx346_1 := (HB.out.cell (World.block_lt_of_cell? w _ hx346_1)).trans hx346_1
             replace hx346_2 := (HB.out.cell (World.block_lt_of_cell? w _ hx346_2)).trans hx346_2
             replace hx346_3 := (HB.out.cell (World.block_lt_of_cell? w _ hx346_3)).trans hx346_3
             replace p346 := eq_true p346
             replace q346 := eq_true q346
             refine start_ (n := 21) (S := fun w' => w'.cell? (ad333.add ((x7_2).toNat * 4)) = some (.int .i64 ((rd_T23 l1 x7_2).f0)) ∧ w'.cell? ⟨(ad333.add ((x7_2).toNat * 4)).block, (ad333.add ((x7_2).toNat * 4)).off + 1, none⟩ = some (.int .i64 ((rd_T23 l1 x7_2).f1)) ∧ w'.cell? ⟨(ad333.add ((x7_2).toNat * 4)).block, (ad333.add ((x7_2).toNat * 4)).off + 2, none⟩ = some (.string ((rd_T23 l1 x7_2).f2)) ∧ w'.cell? ⟨(ad333.add ((x7_2).toNat * 4)).block, (ad333.add ((x7_2).toNat * 4)).off + 3, none⟩ = some (.string ((rd_T23 l1 x7_2).f3)) ∧ w'.cell? (ad333.add ((x7_2).toNat * 4)) = some (.int .i64 ((rd_T23 l1 x7_2).f0)) ∧ w'.cell? ⟨(ad333.add ((x7_2).toNat * 4)).block, (ad333.add ((x7_2).toNat * 4)).off + 1, none⟩ = some (.int .i64 ((rd_T23 l1 x7_2).f1)) ∧ w'.cell? ⟨(ad333.add ((x7_2).toNat * 4)).block, (ad333.add ((x7_2).toNat * 4)).off + 2, none⟩ = some (.string ((rd_T23 l1 x7_2).f2)) ∧ w'.cell? ⟨(ad333.add ((x7_2).toNat * 4)).block, (ad333.add ((x7_2).toNat * 4)).off + 3, none⟩ = some (.string ((rd_T23 l1 x7_2).f3)) ∧ w'.cell? (ad333.add ((x7_2).toNat * 4)) = some (.int .i64 ((rd_T23 l1 x7_2).f0)) ∧ w'.cell? ⟨(ad333.add ((x7_2).toNat * 4)).block, (ad333.add ((x7_2).toNat * 4)).off + 1, none⟩ = some (.int .i64 ((rd_T23 l1 x7_2).f1)) ∧ w'.cell? ⟨(ad333.add ((x7_2).toNat * 4)).block, (ad333.add ((x7_2).toNat * 4)).off + 2, none⟩ = some (.string ((rd_T23 l1 x7_2).f2)) ∧ w'.cell? ⟨(ad333.add ((x7_2).toNat * 4)).block, (ad333.add ((x7_2).toNat * 4)).off + 3, none⟩ = some (.string ((rd_T23 l1 x7_2).f3))) (ds := []) #[false, false, false, false, false, false, false, false, false, false, false, false, false, false, false, false, false, false, false, false, false] (by kernel_rfl) rfl rfl ⟨((HB.out.cell (World.block_lt_of_cell? w _ hw344_0)).trans hw344_0), ((HB.out.cell (World.block_lt_of_cell? w _ hw344_1)).trans hw344_1), ((HB.out.cell (World.block_lt_of_cell? w _ hw344_2)).trans hw344_2), ((HB.out.cell (World.block_lt_of_cell? w _ hw344_3)).trans hw344_3), ((HB.out.cell (World.block_lt_of_cell? w _ hw345_0)).trans hw345_0), ((HB.out.cell (World.block_lt_of_cell? w _ hw345_1)).trans hw345_1), ((HB.out.cell (World.block_lt_of_cell? w _ hw345_2)).trans hw345_2), ((HB.out.cell (World.block_lt_of_cell? w _ hw345_3)).trans hw345_3), ((HB.out.cell (World.block_lt_of_cell? w _ hw346_0)).trans hw346_0), ((HB.out.cell (World.block_lt_of_cell? w _ hw346_1)).trans hw346_1), ((HB.out.cell (World.block_lt_of_cell? w _ hw346_2)).trans hw346_2), ((HB.out.cell (World.block_lt_of_cell? w _ hw346_3)).trans hw346_3)⟩ (fun hHeld => ?_); refine with_tabW brokerlaw32_SegmentBack.tab12 brokerlaw32_SegmentBack.bits12 (fun HT_ HW_ => ?_)
             generalize w35.drew = w36 at HO_6 HO_333002 HO340 BK332 BK343 HB hx344_0 hx344_1 hx344_2 hx344_3 hx345_0 hx345_1 hx345_2 hx345_3 hx346_0 hx346_1 hx346_2 hx346_3 hHeld ⊢
             refine pure_ (i := 0) (N := some 73) (v := ?_) (a' := ?_) #[true, false, false, false, false, false, false, false, false, false, false, false, false, false, false, false, false, false, false, false, false] rfl rfl (any_of HT_.out (by kernel_rfl)) (fun _ _ _ h => h) (Or.inl ⟨by rfl, ?_⟩) ?_ ?_
             rotate_left
             ·
              intro w'
              go_simp
              with_reducible rfl
             rotate_left
             ·
              simp only [Act.put, List.setIfInBounds_toArray, List.set_cons_zero, List.set_cons_succ, i64_w, i32_w]
              rfl
             refine pure_ (i := 1) (N := some 74) (v := ?_) (a' := ?_) #[true, true, false, false, false, false, false, false, false, false, false, false, false, false, false, false, false, false, false, false, false] rfl rfl (any_of HT_.out (by kernel_rfl)) (fun _ _ _ h => h) (Or.inl ⟨by rfl, ?_⟩) ?_ ?_
             rotate_left
             ·
              intro w'
              go_simp
              with_reducible rfl
             rotate_left
             ·
              simp only [Act.put, List.setIfInBounds_toArray, List.set_cons_zero, List.set_cons_succ, i64_w, i32_w]
              rfl
             refine pure_ (i := 2) (N := some 75) (v := ?_) (a' := ?_) #[true, true, true, false, false, false, false, false, false, false, false, false, false, false, false, false, false, false, false, false, false] rfl rfl (any_of HT_.out (by kernel_rfl)) (fun _ _ _ h => h) (Or.inl ⟨by rfl, ?_⟩) ?_ ?_
             rotate_left
             ·
              intro w'
              go_simp
              with_reducible rfl
             rotate_left
             ·
              simp only [Act.put, List.setIfInBounds_toArray, List.set_cons_zero, List.set_cons_succ, i64_w, i32_w]
              rfl
             refine pure_ (i := 3) (N := some 76) (v := ?_) (a' := ?_) #[true, true, true, true, false, false, false, false, false, false, false, false, false, false, false, false, false, false, false, false, false] rfl rfl (any_of HT_.out (by kernel_rfl)) (fun _ _ _ h => h) (Or.inl ⟨by rfl, ?_⟩) ?_ ?_
             rotate_left
             ·
              intro w'
              go_simp
              with_reducible rfl
             rotate_left
             ·
              simp only [Act.put, List.setIfInBounds_toArray, List.set_cons_zero, List.set_cons_succ, i64_w, i32_w]
              rfl
             refine pure_ (i := 4) (N := some 77) (v := ?_) (a' := ?_) #[true, true, true, true, true, false, false, false, false, false, false, false, false, false, false, false, false, false, false, false, false] rfl rfl (any_of HT_.out (by kernel_rfl)) (fun _ _ _ h => h) (Or.inl ⟨by rfl, ?_⟩) ?_ ?_
             rotate_left
             ·
              intro w'
              go_simp
              with_reducible rfl
             rotate_left
             ·
              simp only [Act.put, List.setIfInBounds_toArray, List.set_cons_zero, List.set_cons_succ, i64_w, i32_w]
              rfl
             refine pure_ (i := 5) (N := some 78) (v := ?_) (a' := ?_) #[true, true, true, true, true, true, false, false, false, false, false, false, false, false, false, false, false, false, false, false, false] rfl rfl (any_of HT_.out (by kernel_rfl)) (fun _ _ _ h => h) (Or.inl ⟨by rfl, ?_⟩) ?_ ?_
             rotate_left
             ·
              intro w'
              go_simp
              with_reducible rfl
             rotate_left
             ·
              simp only [Act.put, List.setIfInBounds_toArray, List.set_cons_zero, List.set_cons_succ, i64_w, i32_w]
              rfl
             refine pure_ (i := 7) (N := some 80) (v := ?_) (a' := ?_) #[true, true, true, true, true, true, false, true, false, false, false, false, false, false, false, false, false, false, false, false, false] rfl rfl (any_of HT_.out (by kernel_rfl)) (fun _ _ _ h => h) (Or.inl ⟨by rfl, ?_⟩) ?_ ?_
             rotate_left
             ·
              intro w'
              go_simp
              with_reducible rfl
             rotate_left
             ·
              simp only [Act.put, List.setIfInBounds_toArray, List.set_cons_zero, List.set_cons_succ, i64_w, i32_w]
              rfl
             refine pure_ (i := 8) (N := some 81) (v := ?_) (a' := ?_) #[true, true, true, true, true, true, false, true, true, false, false, false, false, false, false, false, false, false, false, false, false] rfl rfl (any_of HT_.out (by kernel_rfl)) (fun _ _ _ h => h) (Or.inl ⟨by rfl, ?_⟩) ?_ ?_
             rotate_left
             ·
              intro w'
              go_simp
              with_reducible rfl
             rotate_left
             ·
              simp only [Act.put, List.setIfInBounds_toArray, List.set_cons_zero, List.set_cons_succ, i64_w, i32_w]
              rfl
             refine pure_ (i := 9) (N := some 82) (v := ?_) (a' := ?_) #[true, true, true, true, true, true, false, true, true, true, false, false, false, false, false, false, false, false, false, false, false] rfl rfl (any_of HT_.out (by kernel_rfl)) (fun _ _ _ h => h) (Or.inl ⟨by rfl, ?_⟩) ?_ ?_
             rotate_left
             ·
              intro w'
              go_simp
              with_reducible rfl
             rotate_left
             ·
              simp only [Act.put, List.setIfInBounds_toArray, List.set_cons_zero, List.set_cons_succ, i64_w, i32_w]
              rfl
             refine pure_ (i := 10) (N := some 83) (v := ?_) (a' := ?_) #[true, true, true, true, true, true, false, true, true, true, true, false, false, false, false, false, false, false, false, false, false] rfl rfl (any_of HT_.out (by kernel_rfl)) (fun _ _ _ h => h) (Or.inl ⟨by rfl, ?_⟩) ?_ ?_
             rotate_left
             ·
              intro w'
              go_simp
              with_reducible rfl
             rotate_left
             ·
              simp only [Act.put, List.setIfInBounds_toArray, List.set_cons_zero, List.set_cons_succ, i64_w, i32_w]
              rfl
             refine pure_ (i := 12) (N := some 85) (v := ?_) (a' := ?_) #[true, true, true, true, true, true, false, true, true, true, true, false, true, false, false, false, false, false, false, false, false] rfl rfl (any_of HT_.out (by kernel_rfl)) (fun _ _ _ h => h) (Or.inl ⟨by rfl, ?_⟩) ?_ ?_
             rotate_left
             ·
              intro w'
              go_simp
              with_reducible rfl
             rotate_left
             ·
              simp only [Act.put, List.setIfInBounds_toArray, List.set_cons_zero, List.set_cons_succ, i64_w, i32_w]
              rfl
             refine pure_ (i := 13) (N := some 86) (v := ?_) (a' := ?_) #[true, true, true, true, true, true, false, true, true, true, true, false, true, true, false, false, false, false, false, false, false] rfl rfl (any_of HT_.out (by kernel_rfl)) (fun _ _ _ h => h) (Or.inl ⟨by rfl, ?_⟩) ?_ ?_
             rotate_left
             ·
              intro w'
              go_simp
              with_reducible rfl
             rotate_left
             ·
              simp only [Act.put, List.setIfInBounds_toArray, List.set_cons_zero, List.set_cons_succ, i64_w, i32_w]
              rfl
             refine pure_ (i := 14) (N := some 87) (v := ?_) (a' := ?_) #[true, true, true, true, true, true, false, true, true, true, true, false, true, true, true, false, false, false, false, false, false] rfl rfl (any_of HT_.out (by kernel_rfl)) (fun _ _ _ h => h) (Or.inl ⟨by rfl, ?_⟩) ?_ ?_
             rotate_left
             ·
              intro w'
              go_simp
              with_reducible rfl
             rotate_left
             ·
              simp only [Act.put, List.setIfInBounds_toArray, List.set_cons_zero, List.set_cons_succ, i64_w, i32_w]
              rfl
             refine pure_ (i := 15) (N := some 88) (v := ?_) (a' := ?_) #[true, true, true, true, true, true, false, true, true, true, true, false, true, true, true, true, false, false, false, false, false] rfl rfl (any_of HT_.out (by kernel_rfl)) (fun _ _ _ h => h) (Or.inl ⟨by rfl, ?_⟩) ?_ ?_
             rotate_left
             ·
              intro w'
              go_simp
              with_reducible rfl
             rotate_left
             ·
              simp only [Act.put, List.setIfInBounds_toArray, List.set_cons_zero, List.set_cons_succ, i64_w, i32_w]
              rfl
             refine take_ (i := 6) (N := some 79) (v := ?_) (a' := ?_) #[true, true, true, true, true, true, true, true, true, true, true, false, true, true, true, true, false, false, false, false, false] rfl rfl (take_ofW HT_.out HW_.out (by kernel_rfl)) (fun _ _ _ h => h) (Or.inl ⟨by rfl, ?_⟩) hHeld ?_ ?_
             rotate_left
             ·
              rintro w' ⟨s0, s1, s2, s3, s4, s5, s6, s7, s8, s9, s10, s11⟩
              go_simp
              with_reducible rfl
             rotate_left
             ·
              simp only [Act.put, List.setIfInBounds_toArray, List.set_cons_zero, List.set_cons_succ, i64_w, i32_w]
              rfl
             refine take_ (i := 11) (N := some 84) (v := ?_) (a' := ?_) #[true, true, true, true, true, true, true, true, true, true, true, true, true, true, true, true, false, false, false, false, false] rfl rfl (take_ofW HT_.out HW_.out (by kernel_rfl)) (fun _ _ _ h => h) (Or.inl ⟨by rfl, ?_⟩) hHeld ?_ ?_
             rotate_left
             ·
              rintro w' ⟨s0, s1, s2, s3, s4, s5, s6, s7, s8, s9, s10, s11⟩
              go_simp
              with_reducible rfl
             rotate_left
             ·
              simp only [Act.put, List.setIfInBounds_toArray, List.set_cons_zero, List.set_cons_succ, i64_w, i32_w]
              rfl
             refine take_ (i := 16) (N := some 89) (v := ?_) (a' := ?_) #[true, true, true, true, true, true, true, true, true, true, true, true, true, true, true, true, true, false, false, false, false] rfl rfl (take_ofW HT_.out HW_.out (by kernel_rfl)) (fun _ _ _ h => h) (Or.inl ⟨by rfl, ?_⟩) hHeld ?_ ?_
             rotate_left
             ·
              rintro w' ⟨s0, s1, s2, s3, s4, s5, s6, s7, s8, s9, s10, s11⟩
              go_simp
              with_reducible rfl
             rotate_left
             ·
              simp only [Act.put, List.setIfInBounds_toArray, List.set_cons_zero, List.set_cons_succ, i64_w, i32_w]
              rfl
             refine pure_ (i := 17) (N := some 90) (v := ?_) (a' := ?_) #[true, true, true, true, true, true, true, true, true, true, true, true, true, true, true, true, true, true, false, false, false] rfl rfl (any_of HT_.out (by kernel_rfl)) (fun _ _ _ h => h) (Or.inl ⟨by rfl, ?_⟩) ?_ ?_
             rotate_left
             ·
              intro w'
              go_simp
              with_reducible rfl
             rotate_left
             ·
              simp only [Act.put, List.setIfInBounds_toArray, List.set_cons_zero, List.set_cons_succ, i64_w, i32_w]
              rfl
             refine one_ (i := 18) (N := some 91) #[true, true, true, true, true, true, true, true, true, true, true, true, true, true, true, true, true, true, true, false, false] rfl rfl (one_of HT_.out (by kernel_rfl)) (by decide) (fun K hK => ?_)
             refine value_ (w1 := ?_) (v := ?_) (by rfl) rfl ?_ ?_
             rotate_left 2
             ·
              go_simp
              constructor
              ·
               rfl
              ·
               rfl
             refine hK.out _ _ ⟨(World.cell?_alloc_lt _ _ _ (World.block_lt_of_cell? _ _ (((HB.out.cell (World.block_lt_of_cell? w _ hw344_0)).trans hw344_0)))).trans (((HB.out.cell (World.block_lt_of_cell? w _ hw344_0)).trans hw344_0)), (World.cell?_alloc_lt _ _ _ (World.block_lt_of_cell? _ _ (((HB.out.cell (World.block_lt_of_cell? w _ hw344_1)).trans hw344_1)))).trans (((HB.out.cell (World.block_lt_of_cell? w _ hw344_1)).trans hw344_1)), (World.cell?_alloc_lt _ _ _ (World.block_lt_of_cell? _ _ (((HB.out.cell (World.block_lt_of_cell? w _ hw344_2)).trans hw344_2)))).trans (((HB.out.cell (World.block_lt_of_cell? w _ hw344_2)).trans hw344_2)), (World.cell?_alloc_lt _ _ _ (World.block_lt_of_cell? _ _ (((HB.out.cell (World.block_lt_of_cell? w _ hw344_3)).trans hw344_3)))).trans (((HB.out.cell (World.block_lt_of_cell? w _ hw344_3)).trans hw344_3)), (World.cell?_alloc_lt _ _ _ (World.block_lt_of_cell? _ _ (((HB.out.cell (World.block_lt_of_cell? w _ hw345_0)).trans hw345_0)))).trans (((HB.out.cell (World.block_lt_of_cell? w _ hw345_0)).trans hw345_0)), (World.cell?_alloc_lt _ _ _ (World.block_lt_of_cell? _ _ (((HB.out.cell (World.block_lt_of_cell? w _ hw345_1)).trans hw345_1)))).trans (((HB.out.cell (World.block_lt_of_cell? w _ hw345_1)).trans hw345_1)), (World.cell?_alloc_lt _ _ _ (World.block_lt_of_cell? _ _ (((HB.out.cell (World.block_lt_of_cell? w _ hw345_2)).trans hw345_2)))).trans (((HB.out.cell (World.block_lt_of_cell? w _ hw345_2)).trans hw345_2)), (World.cell?_alloc_lt _ _ _ (World.block_lt_of_cell? _ _ (((HB.out.cell (World.block_lt_of_cell? w _ hw345_3)).trans hw345_3)))).trans (((HB.out.cell (World.block_lt_of_cell? w _ hw345_3)).trans hw345_3)), (World.cell?_alloc_lt _ _ _ (World.block_lt_of_cell? _ _ (((HB.out.cell (World.block_lt_of_cell? w _ hw346_0)).trans hw346_0)))).trans (((HB.out.cell (World.block_lt_of_cell? w _ hw346_0)).trans hw346_0)), (World.cell?_alloc_lt _ _ _ (World.block_lt_of_cell? _ _ (((HB.out.cell (World.block_lt_of_cell? w _ hw346_1)).trans hw346_1)))).trans (((HB.out.cell (World.block_lt_of_cell? w _ hw346_1)).trans hw346_1)), (World.cell?_alloc_lt _ _ _ (World.block_lt_of_cell? _ _ (((HB.out.cell (World.block_lt_of_cell? w _ hw346_2)).trans hw346_2)))).trans (((HB.out.cell (World.block_lt_of_cell? w _ hw346_2)).trans hw346_2)), (World.cell?_alloc_lt _ _ _ (World.block_lt_of_cell? _ _ (((HB.out.cell (World.block_lt_of_cell? w _ hw346_3)).trans hw346_3)))).trans (((HB.out.cell (World.block_lt_of_cell? w _ hw346_3)).trans hw346_3))⟩ (fun hHeld => ?_)
             clear hK K
             refine norm_ (a' := ?_) ?_ ?_
             rotate_left
             ·
              show Act.put _ (some 91) _ = _
              simp only [Act.put, List.setIfInBounds_toArray, List.set_cons_zero, List.set_cons_succ, i64_w, i32_w]
              rfl
             refine one_ (i := 19) (N := some 92) #[true, true, true, true, true, true, true, true, true, true, true, true, true, true, true, true, true, true, true, true, false] rfl rfl (one_of HT_.out (by kernel_rfl)) (by decide) (fun K hK => ?_)
             refine Kd.R_append_step k23 (w0 := w) w.heap.size (by rfl) (.tmp 73) (.tmp 91) 58 23 (.agg #[(.int .i64 0), (.int .i64 0), (.string ⟨#[]⟩), (.string ⟨#[]⟩)]) 48 rfl Try.underlying58 info23 rfl (by decide) (by omega) (.slice Ao32 x6_2.length co32) x6_2 (⟨t341, (rd_T23 l1 x7_2).f1, (rd_T23 l1 x7_2).f2, (rd_T23 l1 x7_2).f3⟩ : S23) [.int .i64 t341, .int .i64 ((rd_T23 l1 x7_2).f1), .string ((rd_T23 l1 x7_2).f2), .string ((rd_T23 l1 x7_2).f3)] (fun _ => True) (fun _ => False) rfl rfl ?aP (fun _ hk => hk.elim) ?aF ?aO ?aB ?aS ?aL ?_
             (case aP => exact k23_mkM _ _ _ (⟨t341, (rd_T23 l1 x7_2).f1, (rd_T23 l1 x7_2).f2, (rd_T23 l1 x7_2).f3⟩ : S23))
             (case aB => exact (Hlp.bl HB.out))
             (case aF => exact (fun _ _ => trivial))
             (case aO => exact (Hlp.rp HO_6.out))
             (case aS => exact (below_size (Hlp.bl HB.out)))
             (case aL => have := LMc22.out; omega)
             intro v348 w37 ho hb hg hat
             rw [← Ny347.out] at ho
             have n0_ := Aside0.mk (Kd.R_over' (Hlp.rp HO_333002.out) (Kd.R_typed (Hlp.rp HO_6.out)) (by decide) hg)
             have n1_ := Aside0.mk (blk_grown (g := gb332) (o := .cells #[.int .i64 x333000_2, .int .i64 x333001_2, .slice Ao23 x333002_2.length co23] 43 (0, 0)) (Hlp.bp BK332.out) hg (Kd.R_ne HO_6.out BK332.out (by decide)))
             have n2_ := Aside0.mk (Kd.R_over' (Hlp.rp HO340.out) (Kd.R_typed (Hlp.rp HO_6.out)) (by decide) hg)
             have n3_ := Aside0.mk (blk_grown (g := gb343) (o := .cells #[.int .i64 t336, .int .i64 t337, .slice Ao30 t338.length co30] 43 (0, 0)) (Hlp.bp BK343.out) hg (Kd.R_ne HO_6.out BK343.out (by decide)))
             have n4_ := Aside0.mk (hb)
             have n5_ := Aside0.mk (ho)
             clear HO_333002
             clear BK332
             clear HO340
             clear BK343
             clear HB
             clear HO_6
             have HO_333002 := n0_
             have BK332 := n1_
             have HO340 := n2_
             have BK343 := n3_
             have HB := n4_
             have HO349 := n5_
             clear n0_ n1_ n2_ n3_ n4_ n5_
             clear ho hb hg hat
             refine hK.out _ _ ⟨((HB.out.cell (World.block_lt_of_cell? w _ hw344_0)).trans hw344_0), ((HB.out.cell (World.block_lt_of_cell? w _ hw344_1)).trans hw344_1), ((HB.out.cell (World.block_lt_of_cell? w _ hw344_2)).trans hw344_2), ((HB.out.cell (World.block_lt_of_cell? w _ hw344_3)).trans hw344_3), ((HB.out.cell (World.block_lt_of_cell? w _ hw345_0)).trans hw345_0), ((HB.out.cell (World.block_lt_of_cell? w _ hw345_1)).trans hw345_1), ((HB.out.cell (World.block_lt_of_cell? w _ hw345_2)).trans hw345_2), ((HB.out.cell (World.block_lt_of_cell? w _ hw345_3)).trans hw345_3), ((HB.out.cell (World.block_lt_of_cell? w _ hw346_0)).trans hw346_0), ((HB.out.cell (World.block_lt_of_cell? w _ hw346_1)).trans hw346_1), ((HB.out.cell (World.block_lt_of_cell? w _ hw346_2)).trans hw346_2), ((HB.out.cell (World.block_lt_of_cell? w _ hw346_3)).trans hw346_3)⟩ (fun hHeld => ?_)
             clear hK K
             refine norm_ (a' := ?_) ?_ ?_
             rotate_left
             ·
              show Act.put _ (some 92) _ = _
              simp only [Act.put, List.setIfInBounds_toArray, List.set_cons_zero, List.set_cons_succ, i64_w, i32_w]
              rfl
             refine pure_ (i := 20) (N := some 6) (v := ?_) (a' := ?_) #[true, true, true, true, true, true, true, true, true, true, true, true, true, true, true, true, true, true, true, true, true] rfl rfl (any_of HT_.out (by kernel_rfl)) (fun _ _ _ h => h) (Or.inl ⟨by rfl, ?_⟩) ?_ ?_
             rotate_left
             ·
              intro w'
              go_simp
              with_reducible rfl
             rotate_left
             ·
              simp only [Act.put, List.setIfInBounds_toArray, List.set_cons_zero, List.set_cons_succ, i64_w, i32_w]
              rfl
             refine done_ (done_of HT_.out (by kernel_rfl)) ?_
             have hcz38_0 : w37.cell? ⟨gb343, 0, none⟩ = some (.int .i64 t336) := (blk_cell BK343.out 0).trans rfl
             have hcz38_1 : w37.cell? ⟨gb343, 1, none⟩ = some (.int .i64 t337) := (blk_cell BK343.out 1).trans rfl
             have hcz38_2 : w37.cell? ⟨gb343, 2, none⟩ = some (.slice Ao30 t338.length co30) := (blk_cell BK343.out 2).trans rfl
             have hfz38_0 := blk_frozen BK343.out 0
             have hfz38_1 := blk_frozen BK343.out 1
             have hfz38_2 := blk_frozen BK343.out 2
             have hcz39_0 : w37.cell? ⟨gb332, 0, none⟩ = some (.int .i64 x333000_2) := (blk_cell BK332.out 0).trans rfl
             have hcz39_1 : w37.cell? ⟨gb332, 1, none⟩ = some (.int .i64 x333001_2) := (blk_cell BK332.out 1).trans rfl
             have hcz39_2 : w37.cell? ⟨gb332, 2, none⟩ = some (.slice Ao23 x333002_2.length co23) := (blk_cell BK332.out 2).trans rfl
             have hfz39_0 := blk_frozen BK332.out 0
             have hfz39_1 := blk_frozen BK332.out 1
             have hfz39_2 := blk_frozen BK332.out 2
             try go_wp2
             go_roundg k2
             case measure => have := HJ2.out; have := HK2.out; omega
             case rel => exact ⟨(y347), (wrap64 (x7_2 + 1)), (t336), (t337), (t338), (.slice Ao30 t338.length co30), (by first | rfl | (simp; done) | (simp [*]; done)), H', ⟨by have := HJ2.out; have := HK2.out; omega⟩, ⟨by (with_reducible repeat (first | apply Kd.R_alloc | apply Kd.R_drewN | apply Kd.R_drew)); exact Kd.R_mono (Kd.R_far (p := ⟨gb332, 2, none⟩) (Kd.R_far (p := ⟨gb332, 1, none⟩) (Kd.R_far (p := ⟨gb332, 0, none⟩) (Kd.R_types HO349.out BK332.out (by decide)) (fun _ hk => hk.2) (.int .i64 t336)) (fun _ hk => hk.2) (.int .i64 t337)) (fun _ hk => hk.2) (.slice Ao30 t338.length co30)) (fun _ hk => trivial)⟩, ⟨by (with_reducible repeat (first | apply Kd.R_alloc | apply Kd.R_drewN | apply Kd.R_drew)); exact Kd.R_mono (Kd.R_far (p := ⟨gb332, 2, none⟩) (Kd.R_far (p := ⟨gb332, 1, none⟩) (Kd.R_far (p := ⟨gb332, 0, none⟩) (Kd.R_types HO340.out BK332.out (by decide)) (fun _ hk => hk.2) (.int .i64 t336)) (fun _ hk => hk.2) (.int .i64 t337)) (fun _ hk => hk.2) (.slice Ao30 t338.length co30)) (fun _ hk => trivial)⟩, ⟨by refine Hlp.bp (blk_put (cs := #[.int .i64 t336, .int .i64 t337, .slice Ao23 x333002_2.length co23]) ?_ 2 _ rfl); refine Hlp.bp (blk_put (cs := #[.int .i64 t336, .int .i64 x333001_2, .slice Ao23 x333002_2.length co23]) ?_ 1 _ rfl); refine Hlp.bp (blk_put (cs := #[.int .i64 x333000_2, .int .i64 x333001_2, .slice Ao23 x333002_2.length co23]) ?_ 0 _ rfl); exact Hlp.bp BK332.out⟩, ⟨Hlp.bl HB.out⟩⟩
            ·
             rw [if_neg c22] at H
             exact absurd H (by simp)
           ·
            rw [if_neg c21] at H
            have c21b0 : (t336 == a0) = false := beq_eq_false_iff_ne.mpr c21
            have c21b1 : (t336 != a0) = true := bne_iff_ne.mpr c21
            exact absurd H (by simp)
          ·
           rw [if_neg c20] at H
           have c20b0 : (t337 == (wrap64 (t341 + 1))) = false := beq_eq_false_iff_ne.mpr c20
           have c20b1 : (t337 != (wrap64 (t341 + 1))) = true := bne_iff_ne.mpr c20
           exact absurd H (by simp)
         ·
          rw [if_neg c19] at H
          have c19b0 : (t341 == (wrap64 (a0 + (x6_2.length : Int)))) = false := beq_eq_false_iff_ne.mpr c19
          have c19b1 : (t341 != (wrap64 (a0 + (x6_2.length : Int)))) = true := bne_iff_ne.mpr c19
          exact absurd H (by simp)
        ·
         rw [if_neg c18] at H
         have c18b0 : (t342 == 0) = false := beq_eq_false_iff_ne.mpr c18
         have c18b1 : (t342 != 0) = true := bne_iff_ne.mpr c18
         have H' := Aside0.mk H
         clear H
         obtain ⟨Ao74, co74, eo74⟩ := Kd.R_slice HO_333002.out
         subst eo74
         try go_wp2
         replace HO_6 := Aside0.mk (Kd.R_drew HO_6.out)
         replace HO_333002 := Aside0.mk (Kd.R_drew HO_333002.out)
         replace BK332 := Aside0.mk (blk_drew BK332.out)
         replace HB := Aside0.mk (below_drew1 HB.out)
         have p333 : 0 ≤ (x7_2 : Int) := of_decide_eq_true (by first | (with_reducible assumption) | assumption)
         have q333 : x7_2 < (l1.length : Int) := of_decide_eq_true (by first | (with_reducible assumption) | assumption)
         obtain ⟨ad333, e333, hx333_0, hx333_1, hx333_2, hx333_3⟩ := at_T23 HR1.out x7_2 p333 q333
         have hw333_3 := hx333_3
         have hw333_2 := hx333_2
         have hw333_1 := hx333_1
         have hw333_0 := hx333_0
         cases e333
         replace hx333_0 := (HB.out.cell (World.block_lt_of_cell? w _ hx333_0)).trans hx333_0
         replace hx333_1 := (HB.out.cell (World.block_lt_of_cell? w _ hx333_1)).trans hx333_1
         replace hx333_2 := (HB.out.cell (World.block_lt_of_cell? w _ hx333_2)).trans hx333_2
         replace hx333_3 := (HB.out.cell (World.block_lt_of_cell? w _ hx333_3)).trans hx333_3
         replace p333 := eq_true p333
         replace q333 := eq_true q333
         have p334 : 0 ≤ (x7_2 : Int) := of_decide_eq_true (by first | (with_reducible assumption) | assumption)
         have q334 : x7_2 < (l1.length : Int) := of_decide_eq_true (by first | (with_reducible assumption) | assumption)
         obtain ⟨ad334, e334, hx334_0, hx334_1, hx334_2, hx334_3⟩ := at_T23 HR1.out x7_2 p334 q334
         have hw334_3 := hx334_3
         have hw334_2 := hx334_2
         have hw334_1 := hx334_1
         have hw334_0 := hx334_0
         obtain rfl : ad333 = ad334 := (by injection e334)
         replace hx334_0 := (HB.out.cell (World.block_lt_of_cell? w _ hx334_0)).trans hx334_0
         replace hx334_1 := (HB.out.cell (World.block_lt_of_cell? w _ hx334_1)).trans hx334_1
         replace hx334_2 := (HB.out.cell (World.block_lt_of_cell? w _ hx334_2)).trans hx334_2
         replace hx334_3 := (HB.out.cell (World.block_lt_of_cell? w _ hx334_3)).trans hx334_3
         replace p334 := eq_true p334
         replace q334 := eq_true q334
         have p335 : 0 ≤ (x7_2 : Int) := of_decide_eq_true (by first | (with_reducible assumption) | assumption)
         have q335 : x7_2 < (l1.length : Int) := of_decide_eq_true (by first | (with_reducible assumption) | assumption)
         obtain ⟨ad335, e335, hx335_0, hx335_1, hx335_2, hx335_3⟩ := at_T23 HR1.out x7_2 p335 q335
         have hw335_3 := hx335_3
         have hw335_2 := hx335_2
         have hw335_1 := hx335_1
         have hw335_0 := hx335_0
         obtain rfl : ad333 = ad335 := (by injection e335)
         replace hx335_0 := (HB.out.cell (World.block_lt_of_cell? w _ hx335_0)).trans hx335_0
         replace hx335_1 := (HB.out.cell (World.block_lt_of_cell? w _ hx335_1)).trans hx335_1
         replace hx335_2 := (HB.out.cell (World.block_lt_of_cell? w _ hx335_2)).trans hx335_2
         replace hx335_3 := (HB.out.cell (World.block_lt_of_cell? w _ hx335_3)).trans hx335_3
         replace p335 := eq_true p335
         replace q335 := eq_true q335
         refine start_ (n := 25) (S := fun w' => w'.cell? ⟨gb332, 0, none⟩ = some (.int .i64 x333000_2) ∧ w'.cell? ⟨gb332, 1, none⟩ = some (.int .i64 x333001_2) ∧ w'.cell? ⟨gb332, 2, none⟩ = some (.slice Ao74 x333002_2.length co74) ∧ w'.cell? (ad333.add ((x7_2).toNat * 4)) = some (.int .i64 ((rd_T23 l1 x7_2).f0)) ∧ w'.cell? ⟨(ad333.add ((x7_2).toNat * 4)).block, (ad333.add ((x7_2).toNat * 4)).off + 1, none⟩ = some (.int .i64 ((rd_T23 l1 x7_2).f1)) ∧ w'.cell? ⟨(ad333.add ((x7_2).toNat * 4)).block, (ad333.add ((x7_2).toNat * 4)).off + 2, none⟩ = some (.string ((rd_T23 l1 x7_2).f2)) ∧ w'.cell? ⟨(ad333.add ((x7_2).toNat * 4)).block, (ad333.add ((x7_2).toNat * 4)).off + 3, none⟩ = some (.string ((rd_T23 l1 x7_2).f3)) ∧ w'.cell? (ad333.add ((x7_2).toNat * 4)) = some (.int .i64 ((rd_T23 l1 x7_2).f0)) ∧ w'.cell? ⟨(ad333.add ((x7_2).toNat * 4)).block, (ad333.add ((x7_2).toNat * 4)).off + 1, none⟩ = some (.int .i64 ((rd_T23 l1 x7_2).f1)) ∧ w'.cell? ⟨(ad333.add ((x7_2).toNat * 4)).block, (ad333.add ((x7_2).toNat * 4)).off + 2, none⟩ = some (.string ((rd_T23 l1 x7_2).f2)) ∧ w'.cell? ⟨(ad333.add ((x7_2).toNat * 4)).block, (ad333.add ((x7_2).toNat * 4)).off + 3, none⟩ = some (.string ((rd_T23 l1 x7_2).f3)) ∧ w'.cell? (ad333.add ((x7_2).toNat * 4)) = some (.int .i64 ((rd_T23 l1 x7_2).f0)) ∧ w'.cell? ⟨(ad333.add ((x7_2).toNat * 4)).block, (ad333.add ((x7_2).toNat * 4)).off + 1, none⟩ = some (.int .i64 ((rd_T23 l1 x7_2).f1)) ∧ w'.cell? ⟨(ad333.add ((x7_2).toNat * 4)).block, (ad333.add ((x7_2).toNat * 4)).off + 2, none⟩ = some (.string ((rd_T23 l1 x7_2).f2)) ∧ w'.cell? ⟨(ad333.add ((x7_2).toNat * 4)).block, (ad333.add ((x7_2).toNat * 4)).off + 3, none⟩ = some (.string ((rd_T23 l1 x7_2).f3))) (ds := []) #[false, false, false, false, false, false, false, false, false, false, false, false, false, false, false, false, false, false, false, false, false, false, false, false, false] (by kernel_rfl) rfl rfl ⟨(blk_cell BK332.out 0).trans rfl, (blk_cell BK332.out 1).trans rfl, (blk_cell BK332.out 2).trans rfl, ((HB.out.cell (World.block_lt_of_cell? w _ hw333_0)).trans hw333_0), ((HB.out.cell (World.block_lt_of_cell? w _ hw333_1)).trans hw333_1), ((HB.out.cell (World.block_lt_of_cell? w _ hw333_2)).trans hw333_2), ((HB.out.cell (World.block_lt_of_cell? w _ hw333_3)).trans hw333_3), ((HB.out.cell (World.block_lt_of_cell? w _ hw334_0)).trans hw334_0), ((HB.out.cell (World.block_lt_of_cell? w _ hw334_1)).trans hw334_1), ((HB.out.cell (World.block_lt_of_cell? w _ hw334_2)).trans hw334_2), ((HB.out.cell (World.block_lt_of_cell? w _ hw334_3)).trans hw334_3), ((HB.out.cell (World.block_lt_of_cell? w _ hw335_0)).trans hw335_0), ((HB.out.cell (World.block_lt_of_cell? w _ hw335_1)).trans hw335_1), ((HB.out.cell (World.block_lt_of_cell? w _ hw335_2)).trans hw335_2), ((HB.out.cell (World.block_lt_of_cell? w _ hw335_3)).trans hw335_3)⟩ (fun hHeld => ?_); refine with_tabW brokerlaw32_SegmentBack.tab8 brokerlaw32_SegmentBack.bits8 (fun HT_ HW_ => ?_)
         generalize wr.drew = w75 at HO_6 HO_333002 BK332 HB hx333_0 hx333_1 hx333_2 hx333_3 hx334_0 hx334_1 hx334_2 hx334_3 hx335_0 hx335_1 hx335_2 hx335_3 hHeld ⊢
         refine pure_ (i := 1) (N := some 33) (v := ?_) (a' := ?_) #[false, true, false, false, false, false, false, false, false, false, false, false, false, false, false, false, false, false, false, false, false, false, false, false, false] rfl rfl (any_of HT_.out (by kernel_rfl)) (fun _ _ _ h => h) (Or.inl ⟨by rfl, ?_⟩) ?_ ?_
         rotate_left
         ·
          intro w'
          go_simp
          with_reducible rfl
         rotate_left
         ·
          simp only [Act.put, List.setIfInBounds_toArray, List.set_cons_zero, List.set_cons_succ, i64_w, i32_w]
          rfl
         refine pure_ (i := 2) (N := some 34) (v := ?_) (a' := ?_) #[false, true, true, false, false, false, false, false, false, false, false, false, false, false, false, false, false, false, false, false, false, false, false, false, false] rfl rfl (any_of HT_.out (by kernel_rfl)) (fun _ _ _ h => h) (Or.inl ⟨by rfl, ?_⟩) ?_ ?_
         rotate_left
         ·
          intro w'
          go_simp
          with_reducible rfl
         rotate_left
         ·
          simp only [Act.put, List.setIfInBounds_toArray, List.set_cons_zero, List.set_cons_succ, i64_w, i32_w]
          rfl
         refine pure_ (i := 3) (N := some 35) (v := ?_) (a' := ?_) #[false, true, true, true, false, false, false, false, false, false, false, false, false, false, false, false, false, false, false, false, false, false, false, false, false] rfl rfl (any_of HT_.out (by kernel_rfl)) (fun _ _ _ h => h) (Or.inl ⟨by rfl, ?_⟩) ?_ ?_
         rotate_left
         ·
          intro w'
          go_simp
          with_reducible rfl
         rotate_left
         ·
          simp only [Act.put, List.setIfInBounds_toArray, List.set_cons_zero, List.set_cons_succ, i64_w, i32_w]
          rfl
         refine pure_ (i := 4) (N := some 36) (v := ?_) (a' := ?_) #[false, true, true, true, true, false, false, false, false, false, false, false, false, false, false, false, false, false, false, false, false, false, false, false, false] rfl rfl (any_of HT_.out (by kernel_rfl)) (fun _ _ _ h => h) (Or.inl ⟨by rfl, ?_⟩) ?_ ?_
         rotate_left
         ·
          intro w'
          go_simp
          with_reducible rfl
         rotate_left
         ·
          simp only [Act.put, List.setIfInBounds_toArray, List.set_cons_zero, List.set_cons_succ, i64_w, i32_w]
          rfl
         refine pure_ (i := 6) (N := some 38) (v := ?_) (a' := ?_) #[false, true, true, true, true, false, true, false, false, false, false, false, false, false, false, false, false, false, false, false, false, false, false, false, false] rfl rfl (any_of HT_.out (by kernel_rfl)) (fun _ _ _ h => h) (Or.inl ⟨by rfl, ?_⟩) ?_ ?_
         rotate_left
         ·
          intro w'
          go_simp
          with_reducible rfl
         rotate_left
         ·
          simp only [Act.put, List.setIfInBounds_toArray, List.set_cons_zero, List.set_cons_succ, i64_w, i32_w]
          rfl
         refine pure_ (i := 7) (N := some 39) (v := ?_) (a' := ?_) #[false, true, true, true, true, false, true, true, false, false, false, false, false, false, false, false, false, false, false, false, false, false, false, false, false] rfl rfl (any_of HT_.out (by kernel_rfl)) (fun _ _ _ h => h) (Or.inl ⟨by rfl, ?_⟩) ?_ ?_
         rotate_left
         ·
          intro w'
          go_simp
          with_reducible rfl
         rotate_left
         ·
          simp only [Act.put, List.setIfInBounds_toArray, List.set_cons_zero, List.set_cons_succ, i64_w, i32_w]
          rfl
         refine pure_ (i := 8) (N := some 40) (v := ?_) (a' := ?_) #[false, true, true, true, true, false, true, true, true, false, false, false, false, false, false, false, false, false, false, false, false, false, false, false, false] rfl rfl (any_of HT_.out (by kernel_rfl)) (fun _ _ _ h => h) (Or.inl ⟨by rfl, ?_⟩) ?_ ?_
         rotate_left
         ·
          intro w'
          go_simp
          with_reducible rfl
         rotate_left
         ·
          simp only [Act.put, List.setIfInBounds_toArray, List.set_cons_zero, List.set_cons_succ, i64_w, i32_w]
          rfl
         refine pure_ (i := 9) (N := some 41) (v := ?_) (a' := ?_) #[false, true, true, true, true, false, true, true, true, true, false, false, false, false, false, false, false, false, false, false, false, false, false, false, false] rfl rfl (any_of HT_.out (by kernel_rfl)) (fun _ _ _ h => h) (Or.inl ⟨by rfl, ?_⟩) ?_ ?_
         rotate_left
         ·
          intro w'
          go_simp
          with_reducible rfl
         rotate_left
         ·
          simp only [Act.put, List.setIfInBounds_toArray, List.set_cons_zero, List.set_cons_succ, i64_w, i32_w]
          rfl
         refine pure_ (i := 11) (N := some 43) (v := ?_) (a' := ?_) #[false, true, true, true, true, false, true, true, true, true, false, true, false, false, false, false, false, false, false, false, false, false, false, false, false] rfl rfl (any_of HT_.out (by kernel_rfl)) (fun _ _ _ h => h) (Or.inl ⟨by rfl, ?_⟩) ?_ ?_
         rotate_left
         ·
          intro w'
          go_simp
          with_reducible rfl
         rotate_left
         ·
          simp only [Act.put, List.setIfInBounds_toArray, List.set_cons_zero, List.set_cons_succ, i64_w, i32_w]
          rfl
         refine pure_ (i := 12) (N := some 44) (v := ?_) (a' := ?_) #[false, true, true, true, true, false, true, true, true, true, false, true, true, false, false, false, false, false, false, false, false, false, false, false, false] rfl rfl (any_of HT_.out (by kernel_rfl)) (fun _ _ _ h => h) (Or.inl ⟨by rfl, ?_⟩) ?_ ?_
         rotate_left
         ·
          intro w'
          go_simp
          with_reducible rfl
         rotate_left
         ·
          simp only [Act.put, List.setIfInBounds_toArray, List.set_cons_zero, List.set_cons_succ, i64_w, i32_w]
          rfl
         refine pure_ (i := 13) (N := some 45) (v := ?_) (a' := ?_) #[false, true, true, true, true, false, true, true, true, true, false, true, true, true, false, false, false, false, false, false, false, false, false, false, false] rfl rfl (any_of HT_.out (by kernel_rfl)) (fun _ _ _ h => h) (Or.inl ⟨by rfl, ?_⟩) ?_ ?_
         rotate_left
         ·
          intro w'
          go_simp
          with_reducible rfl
         rotate_left
         ·
          simp only [Act.put, List.setIfInBounds_toArray, List.set_cons_zero, List.set_cons_succ, i64_w, i32_w]
          rfl
         refine pure_ (i := 14) (N := some 46) (v := ?_) (a' := ?_) #[false, true, true, true, true, false, true, true, true, true, false, true, true, true, true, false, false, false, false, false, false, false, false, false, false] rfl rfl (any_of HT_.out (by kernel_rfl)) (fun _ _ _ h => h) (Or.inl ⟨by rfl, ?_⟩) ?_ ?_
         rotate_left
         ·
          intro w'
          go_simp
          with_reducible rfl
         rotate_left
         ·
          simp only [Act.put, List.setIfInBounds_toArray, List.set_cons_zero, List.set_cons_succ, i64_w, i32_w]
          rfl
         refine take_ (i := 0) (N := some 32) (v := ?_) (a' := ?_) #[true, true, true, true, true, false, true, true, true, true, false, true, true, true, true, false, false, false, false, false, false, false, false, false, false] rfl rfl (take_ofW HT_.out HW_.out (by kernel_rfl)) (fun _ _ _ h => h) (Or.inl ⟨by rfl, ?_⟩) hHeld ?_ ?_
         rotate_left
         ·
          rintro w' ⟨s0, s1, s2, s3, s4, s5, s6, s7, s8, s9, s10, s11, s12, s13, s14⟩
          go_simp
          with_reducible rfl
         rotate_left
         ·
          simp only [Act.put, List.setIfInBounds_toArray, List.set_cons_zero, List.set_cons_succ, i64_w, i32_w]
          rfl
         refine take_ (i := 5) (N := some 37) (v := ?_) (a' := ?_) #[true, true, true, true, true, true, true, true, true, true, false, true, true, true, true, false, false, false, false, false, false, false, false, false, false] rfl rfl (take_ofW HT_.out HW_.out (by kernel_rfl)) (fun _ _ _ h => h) (Or.inl ⟨by rfl, ?_⟩) hHeld ?_ ?_
         rotate_left
         ·
          rintro w' ⟨s0, s1, s2, s3, s4, s5, s6, s7, s8, s9, s10, s11, s12, s13, s14⟩
          go_simp
          with_reducible rfl
         rotate_left
         ·
          simp only [Act.put, List.setIfInBounds_toArray, List.set_cons_zero, List.set_cons_succ, i64_w, i32_w]
          rfl
         refine take_ (i := 10) (N := some 42) (v := ?_) (a' := ?_) #[true, true, true, true, true, true, true, true, true, true, true, true, true, true, true, false, false, false, false, false, false, false, false, false, false] rfl rfl (take_ofW HT_.out HW_.out (by kernel_rfl)) (fun _ _ _ h => h) (Or.inl ⟨by rfl, ?_⟩) hHeld ?_ ?_
         rotate_left
         ·
          rintro w' ⟨s0, s1, s2, s3, s4, s5, s6, s7, s8, s9, s10, s11, s12, s13, s14⟩
          go_simp
          with_reducible rfl
         rotate_left
         ·
          simp only [Act.put, List.setIfInBounds_toArray, List.set_cons_zero, List.set_cons_succ, i64_w, i32_w]
          rfl
         refine take_ (i := 15) (N := some 47) (v := ?_) (a' := ?_) #[true, true, true, true, true, true, true, true, true, true, true, true, true, true, true, true, false, false, false, false, false, false, false, false, false] rfl rfl (take_ofW HT_.out HW_.out (by kernel_rfl)) (fun _ _ _ h => h) (Or.inl ⟨by rfl, ?_⟩) hHeld ?_ ?_
         rotate_left
         ·
          rintro w' ⟨s0, s1, s2, s3, s4, s5, s6, s7, s8, s9, s10, s11, s12, s13, s14⟩
          go_simp
          with_reducible rfl
         rotate_left
         ·
          simp only [Act.put, List.setIfInBounds_toArray, List.set_cons_zero, List.set_cons_succ, i64_w, i32_w]
          rfl
         refine join_ (σ := Value × Nat) 3 #[true, true, true, true, true, true, true, true, true, true, true, true, true, true, true, true, true, true, true, true, true, true, false, false, false] (fun s_ => [(48, .tuple #[.agg #[.int .i64 t336, .int .i64 t337, s_.1], .int .i64 t341, .int .i64 t342]), (8, .pointer (some ⟨s_.2, 0, none⟩)), (31, .tuple #[.agg #[.int .i64 t336, .int .i64 t337, s_.1], .int .i64 t341, .int .i64 t342]), (49, .agg #[.int .i64 t336, .int .i64 t337, s_.1]), (50, .int .i64 t341), (51, .int .i64 t342)]) (fun s_ w' => (w'.cell? ⟨gb332, 0, none⟩ = some (.int .i64 x333000_2) ∧ w'.cell? ⟨gb332, 1, none⟩ = some (.int .i64 x333001_2) ∧ w'.cell? ⟨gb332, 2, none⟩ = some (.slice Ao74 x333002_2.length co74) ∧ w'.cell? (ad333.add ((x7_2).toNat * 4)) = some (.int .i64 ((rd_T23 l1 x7_2).f0)) ∧ w'.cell? ⟨(ad333.add ((x7_2).toNat * 4)).block, (ad333.add ((x7_2).toNat * 4)).off + 1, none⟩ = some (.int .i64 ((rd_T23 l1 x7_2).f1)) ∧ w'.cell? ⟨(ad333.add ((x7_2).toNat * 4)).block, (ad333.add ((x7_2).toNat * 4)).off + 2, none⟩ = some (.string ((rd_T23 l1 x7_2).f2)) ∧ w'.cell? ⟨(ad333.add ((x7_2).toNat * 4)).block, (ad333.add ((x7_2).toNat * 4)).off + 3, none⟩ = some (.string ((rd_T23 l1 x7_2).f3)) ∧ w'.cell? (ad333.add ((x7_2).toNat * 4)) = some (.int .i64 ((rd_T23 l1 x7_2).f0)) ∧ w'.cell? ⟨(ad333.add ((x7_2).toNat * 4)).block, (ad333.add ((x7_2).toNat * 4)).off + 1, none⟩ = some (.int .i64 ((rd_T23 l1 x7_2).f1)) ∧ w'.cell? ⟨(ad333.add ((x7_2).toNat * 4)).block, (ad333.add ((x7_2).toNat * 4)).off + 2, none⟩ = some (.string ((rd_T23 l1 x7_2).f2)) ∧ w'.cell? ⟨(ad333.add ((x7_2).toNat * 4)).block, (ad333.add ((x7_2).toNat * 4)).off + 3, none⟩ = some (.string ((rd_T23 l1 x7_2).f3)) ∧ w'.cell? (ad333.add ((x7_2).toNat * 4)) = some (.int .i64 ((rd_T23 l1 x7_2).f0)) ∧ w'.cell? ⟨(ad333.add ((x7_2).toNat * 4)).block, (ad333.add ((x7_2).toNat * 4)).off + 1, none⟩ = some (.int .i64 ((rd_T23 l1 x7_2).f1)) ∧ w'.cell? ⟨(ad333.add ((x7_2).toNat * 4)).block, (ad333.add ((x7_2).toNat * 4)).off + 2, none⟩ = some (.string ((rd_T23 l1 x7_2).f2)) ∧ w'.cell? ⟨(ad333.add ((x7_2).toNat * 4)).block, (ad333.add ((x7_2).toNat * 4)).off + 3, none⟩ = some (.string ((rd_T23 l1 x7_2).f3))) ∧ (Kd.R (Kd.int .u8) 5 w' w.heap.size (fun k_ => some k_ ≠ (.slice Ao74 x333002_2.length co74 : Value).ownBlock) s_.1 t338) ∧ (Kd.R (Kd.int .u8) 5 w' w.heap.size (fun k_ => some k_ ≠ (s_.1 : Value).ownBlock) (.slice Ao74 x333002_2.length co74) x333002_2) ∧ (Kd.R k23 23 w' w.heap.size (fun _ => True) u6 x6_2) ∧ (w'.heap[gb332]? = some (.cells #[.int .i64 x333000_2, .int .i64 x333001_2, .slice Ao74 x333002_2.length co74] 43 (0, 0))) ∧ (w'.heap[s_.2]? = some (.cells #[.int .i64 0, .int .i64 0, .slice none 0 0] 43 (0, 0))) ∧ (w.heap.size ≤ s_.2) ∧ (w.heap.size ≤ s_.2) ∧ (gb332 ≠ s_.2) ∧ (s_.2 ≠ gb332) ∧ (Below w.heap.size w w')) ?_ ?_
         rotate_left
         ·
          intro hCont
          refine two_ (i := 16) (j := 21) (Ni := some 48) (Nj := some 8) #[true, true, true, true, true, true, true, true, true, true, true, true, true, true, true, true, true, false, false, false, false, false, false, false, false] #[true, true, true, true, true, true, true, true, true, true, true, true, true, true, true, true, false, false, false, false, false, true, false, false, false] rfl rfl rfl rfl (two_of HT_.out (by kernel_rfl)) (by decide) (by decide) (fun K hK => ?_) (fun K hK => ?_)
          ·
           skip
           refine goes_ Try.func53 (by kernel_rfl) rfl #[.agg #[.int .i64 x333000_2, .int .i64 x333001_2, .slice Ao74 x333002_2.length co74], .int .i64 ((rd_T23 l1 x7_2).f1), .string ((rd_T23 l1 x7_2).f2), .string ((rd_T23 l1 x7_2).f3)] (by rfl) rfl rfl (by (try simp only [List.map_toArray, List.map_cons, List.map_nil]); first | done | rfl | (simp only [List.length_drop, List.length_take]; rfl)) ?_
           with_reducible refine (segment_Append.calls k2 x333000_2 x333001_2 _ _ x333002_2 ((rd_T23 l1 x7_2).f1) ((rd_T23 l1 x7_2).f2) ((rd_T23 l1 x7_2).f3) t336 t337 t338 t341 t342 _ ?side1 ?side2 A17.out).mono ?_
           (case side1 => exact Hlp.cp (Kd.R_reads' HO_333002.out).2.2)
           (case side2 => exact (Kd.R_reads' HO_333002.out).2.1)
           rintro e w76 ⟨v339, rfl, ho0, hb⟩
           refine ⟨_, rfl, ?_⟩
           replace HO_6 := Aside0.mk (Kd.R_below (Hlp.rp HO_6.out) hb)
           have HO340 := Aside0.mk (Kd.R_lower (Kd.R_new' ho0 (Kd.R_lt (Hlp.rp HO_333002.out))) (below_size (Hlp.bl HB.out)))
           replace HO_333002 := Aside0.mk (Kd.R_elder' (Hlp.rp HO_333002.out) (Kd.R_base ho0) hb)
           replace BK332 := Aside0.mk (blk_below (g := gb332) (o := .cells #[.int .i64 x333000_2, .int .i64 x333001_2, .slice Ao74 x333002_2.length co74] 43 (0, 0)) (Hlp.bp BK332.out) hb)
           replace HB := Aside0.mk (below_step (Hlp.bl HB.out) hb)
           (try clear hb)
           (try clear hb2)
           (try clear hk)
           (try clear hi)
           (try clear ho0)
           refine hK.out _ _ ⟨(blk_cell BK332.out 0).trans rfl, (blk_cell BK332.out 1).trans rfl, (blk_cell BK332.out 2).trans rfl, ((HB.out.cell (World.block_lt_of_cell? w _ hw333_0)).trans hw333_0), ((HB.out.cell (World.block_lt_of_cell? w _ hw333_1)).trans hw333_1), ((HB.out.cell (World.block_lt_of_cell? w _ hw333_2)).trans hw333_2), ((HB.out.cell (World.block_lt_of_cell? w _ hw333_3)).trans hw333_3), ((HB.out.cell (World.block_lt_of_cell? w _ hw334_0)).trans hw334_0), ((HB.out.cell (World.block_lt_of_cell? w _ hw334_1)).trans hw334_1), ((HB.out.cell (World.block_lt_of_cell? w _ hw334_2)).trans hw334_2), ((HB.out.cell (World.block_lt_of_cell? w _ hw334_3)).trans hw334_3), ((HB.out.cell (World.block_lt_of_cell? w _ hw335_0)).trans hw335_0), ((HB.out.cell (World.block_lt_of_cell? w _ hw335_1)).trans hw335_1), ((HB.out.cell (World.block_lt_of_cell? w _ hw335_2)).trans hw335_2), ((HB.out.cell (World.block_lt_of_cell? w _ hw335_3)).trans hw335_3)⟩ (fun hHeld => ?_)
           clear hK K
           refine norm_ (a' := ?_) ?_ ?_
           rotate_left
           ·
            show Act.put _ (some 48) _ = _
            simp only [Act.put, List.setIfInBounds_toArray, List.set_cons_zero, List.set_cons_succ, i64_w, i32_w]
            rfl
           refine pure_ (i := 17) (N := some 31) (v := ?_) (a' := ?_) #[true, true, true, true, true, true, true, true, true, true, true, true, true, true, true, true, true, true, false, false, false, false, false, false, false] rfl rfl (any_of HT_.out (by kernel_rfl)) (fun _ _ _ h => h) (Or.inl ⟨by rfl, ?_⟩) ?_ ?_
           rotate_left
           ·
            intro w'
            go_simp
            with_reducible rfl
           rotate_left
           ·
            simp only [Act.put, List.setIfInBounds_toArray, List.set_cons_zero, List.set_cons_succ, i64_w, i32_w]
            rfl
           refine pure_ (i := 18) (N := some 49) (v := ?_) (a' := ?_) #[true, true, true, true, true, true, true, true, true, true, true, true, true, true, true, true, true, true, true, false, false, false, false, false, false] rfl rfl (any_of HT_.out (by kernel_rfl)) (fun _ _ _ h => h) (Or.inl ⟨by rfl, ?_⟩) ?_ ?_
           rotate_left
           ·
            intro w'
            go_simp
            with_reducible rfl
           rotate_left
           ·
            simp only [Act.put, List.setIfInBounds_toArray, List.set_cons_zero, List.set_cons_succ, i64_w, i32_w]
            rfl
           refine pure_ (i := 19) (N := some 50) (v := ?_) (a' := ?_) #[true, true, true, true, true, true, true, true, true, true, true, true, true, true, true, true, true, true, true, true, false, false, false, false, false] rfl rfl (any_of HT_.out (by kernel_rfl)) (fun _ _ _ h => h) (Or.inl ⟨by rfl, ?_⟩) ?_ ?_
           rotate_left
           ·
            intro w'
            go_simp
            with_reducible rfl
           rotate_left
           ·
            simp only [Act.put, List.setIfInBounds_toArray, List.set_cons_zero, List.set_cons_succ, i64_w, i32_w]
            rfl
           refine pure_ (i := 20) (N := some 51) (v := ?_) (a' := ?_) #[true, true, true, true, true, true, true, true, true, true, true, true, true, true, true, true, true, true, true, true, true, false, false, false, false] rfl rfl (any_of HT_.out (by kernel_rfl)) (fun _ _ _ h => h) (Or.inl ⟨by rfl, ?_⟩) ?_ ?_
           rotate_left
           ·
            intro w'
            go_simp
            with_reducible rfl
           rotate_left
           ·
            simp only [Act.put, List.setIfInBounds_toArray, List.set_cons_zero, List.set_cons_succ, i64_w, i32_w]
            rfl
           refine one_ (i := 21) (N := some 8) #[true, true, true, true, true, true, true, true, true, true, true, true, true, true, true, true, true, true, true, true, true, true, false, false, false] rfl rfl (one_of HT_.out (by kernel_rfl)) (by decide) (fun K hK => ?_)
           refine box_step ?hg (N := 8) ?hd (cs := #[.int .i64 0, .int .i64 0, .slice none 0 0]) (t := 43) ?hr ?_; (case hd => rfl); (case hg => rfl); (case hr => first | (go_simp; done) | (go_simp; rfl))
           intro gb343 hg w77 hbox hb
           replace HO_6 := Aside0.mk (Kd.R_below (Hlp.rp HO_6.out) hb)
           replace HO_333002 := Aside0.mk (Kd.R_below (Hlp.rp HO_333002.out) hb)
           replace HO340 := Aside0.mk (Kd.R_below (Hlp.rp HO340.out) hb)
           have BK343 := Aside0.mk (hbox)
           have GW343 := Aside0.mk ((by rw [hg]; exact (below_size (Hlp.bl HB.out)) : w.heap.size ≤ gb343))
           have GE343 := Aside0.mk ((by rw [hg]; exact (below_size (Hlp.bl HB.out)) : w.heap.size ≤ gb343))
           replace HB := Aside0.mk (below_step (Hlp.bl HB.out) hb)
           have NB332_343 := Aside0.mk ((by rw [hg]; exact Nat.ne_of_lt (blk_lt (g := gb332) (o := .cells #[.int .i64 x333000_2, .int .i64 x333001_2, .slice Ao74 x333002_2.length co74] 43 (0, 0)) (Hlp.bp BK332.out)) : gb332 ≠ gb343))
           have NB343_332 := Aside0.mk ((by rw [hg]; exact Nat.ne_of_gt (blk_lt (g := gb332) (o := .cells #[.int .i64 x333000_2, .int .i64 x333001_2, .slice Ao74 x333002_2.length co74] 43 (0, 0)) (Hlp.bp BK332.out)) : gb343 ≠ gb332))
           replace BK332 := Aside0.mk (blk_below (g := gb332) (o := .cells #[.int .i64 x333000_2, .int .i64 x333001_2, .slice Ao74 x333002_2.length co74] 43 (0, 0)) (Hlp.bp BK332.out) hb)
           clear hb hbox hg
           refine hK.out _ _ ⟨(blk_cell BK332.out 0).trans rfl, (blk_cell BK332.out 1).trans rfl, (blk_cell BK332.out 2).trans rfl, ((HB.out.cell (World.block_lt_of_cell? w _ hw333_0)).trans hw333_0), ((HB.out.cell (World.block_lt_of_cell? w _ hw333_1)).trans hw333_1), ((HB.out.cell (World.block_lt_of_cell? w _ hw333_2)).trans hw333_2), ((HB.out.cell (World.block_lt_of_cell? w _ hw333_3)).trans hw333_3), ((HB.out.cell (World.block_lt_of_cell? w _ hw334_0)).trans hw334_0), ((HB.out.cell (World.block_lt_of_cell? w _ hw334_1)).trans hw334_1), ((HB.out.cell (World.block_lt_of_cell? w _ hw334_2)).trans hw334_2), ((HB.out.cell (World.block_lt_of_cell? w _ hw334_3)).trans hw334_3), ((HB.out.cell (World.block_lt_of_cell? w _ hw335_0)).trans hw335_0), ((HB.out.cell (World.block_lt_of_cell? w _ hw335_1)).trans hw335_1), ((HB.out.cell (World.block_lt_of_cell? w _ hw335_2)).trans hw335_2), ((HB.out.cell (World.block_lt_of_cell? w _ hw335_3)).trans hw335_3)⟩ (fun hHeld => ?_)
           clear hK K
           refine norm_ (a' := ?_) ?_ ?_
           rotate_left
           ·
            show Act.put _ (some 8) _ = _
            simp only [Act.put, List.setIfInBounds_toArray, List.set_cons_zero, List.set_cons_succ, i64_w, i32_w]
            rfl
           exact norm_ (by simp only [putAll, Act.put, List.setIfInBounds_toArray, List.set_cons_zero, List.set_cons_succ]) (hCont (v339, gb343) _ ⟨hHeld, (by (with_reducible repeat (first | apply Kd.R_alloc | apply Kd.R_drewN | apply Kd.R_drew)); exact Kd.R_mono HO340.out (fun _ hk => hk.2)), (by (with_reducible repeat (first | apply Kd.R_alloc | apply Kd.R_drewN | apply Kd.R_drew)); exact Kd.R_mono HO_333002.out (fun _ hk => hk.2)), (Hlp.rp HO_6.out), (Hlp.bp BK332.out), (Hlp.bp BK343.out), GW343.out, GE343.out, NB332_343.out, NB343_332.out, (Hlp.bl HB.out)⟩)
          ·
           skip
           refine box_step ?hg (N := 8) ?hd (cs := #[.int .i64 0, .int .i64 0, .slice none 0 0]) (t := 43) ?hr ?_; (case hd => rfl); (case hg => rfl); (case hr => first | (go_simp; done) | (go_simp; rfl))
           intro gb343 hg w76 hbox hb
           replace HO_6 := Aside0.mk (Kd.R_below (Hlp.rp HO_6.out) hb)
           replace HO_333002 := Aside0.mk (Kd.R_below (Hlp.rp HO_333002.out) hb)
           have BK343 := Aside0.mk (hbox)
           have GW343 := Aside0.mk ((by rw [hg]; exact (below_size (Hlp.bl HB.out)) : w.heap.size ≤ gb343))
           have GE343 := Aside0.mk ((by rw [hg]; exact (below_size (Hlp.bl HB.out)) : w.heap.size ≤ gb343))
           replace HB := Aside0.mk (below_step (Hlp.bl HB.out) hb)
           have NB332_343 := Aside0.mk ((by rw [hg]; exact Nat.ne_of_lt (blk_lt (g := gb332) (o := .cells #[.int .i64 x333000_2, .int .i64 x333001_2, .slice Ao74 x333002_2.length co74] 43 (0, 0)) (Hlp.bp BK332.out)) : gb332 ≠ gb343))
           have NB343_332 := Aside0.mk ((by rw [hg]; exact Nat.ne_of_gt (blk_lt (g := gb332) (o := .cells #[.int .i64 x333000_2, .int .i64 x333001_2, .slice Ao74 x333002_2.length co74] 43 (0, 0)) (Hlp.bp BK332.out)) : gb343 ≠ gb332))
           replace BK332 := Aside0.mk (blk_below (g := gb332) (o := .cells #[.int .i64 x333000_2, .int .i64 x333001_2, .slice Ao74 x333002_2.length co74] 43 (0, 0)) (Hlp.bp BK332.out) hb)
           clear hb hbox hg
           refine hK.out _ _ ⟨(blk_cell BK332.out 0).trans rfl, (blk_cell BK332.out 1).trans rfl, (blk_cell BK332.out 2).trans rfl, ((HB.out.cell (World.block_lt_of_cell? w _ hw333_0)).trans hw333_0), ((HB.out.cell (World.block_lt_of_cell? w _ hw333_1)).trans hw333_1), ((HB.out.cell (World.block_lt_of_cell? w _ hw333_2)).trans hw333_2), ((HB.out.cell (World.block_lt_of_cell? w _ hw333_3)).trans hw333_3), ((HB.out.cell (World.block_lt_of_cell? w _ hw334_0)).trans hw334_0), ((HB.out.cell (World.block_lt_of_cell? w _ hw334_1)).trans hw334_1), ((HB.out.cell (World.block_lt_of_cell? w _ hw334_2)).trans hw334_2), ((HB.out.cell (World.block_lt_of_cell? w _ hw334_3)).trans hw334_3), ((HB.out.cell (World.block_lt_of_cell? w _ hw335_0)).trans hw335_0), ((HB.out.cell (World.block_lt_of_cell? w _ hw335_1)).trans hw335_1), ((HB.out.cell (World.block_lt_of_cell? w _ hw335_2)).trans hw335_2), ((HB.out.cell (World.block_lt_of_cell? w _ hw335_3)).trans hw335_3)⟩ (fun hHeld => ?_)
           clear hK K
           refine norm_ (a' := ?_) ?_ ?_
           rotate_left
           ·
            show Act.put _ (some 8) _ = _
            simp only [Act.put, List.setIfInBounds_toArray, List.set_cons_zero, List.set_cons_succ, i64_w, i32_w]
            rfl
           refine one_ (i := 16) (N := some 48) #[true, true, true, true, true, true, true, true, true, true, true, true, true, true, true, true, true, false, false, false, false, true, false, false, false] rfl rfl (one_of HT_.out (by kernel_rfl)) (by decide) (fun K hK => ?_)
           refine goes_ Try.func53 (by kernel_rfl) rfl #[.agg #[.int .i64 x333000_2, .int .i64 x333001_2, .slice Ao74 x333002_2.length co74], .int .i64 ((rd_T23 l1 x7_2).f1), .string ((rd_T23 l1 x7_2).f2), .string ((rd_T23 l1 x7_2).f3)] (by rfl) rfl rfl (by (try simp only [List.map_toArray, List.map_cons, List.map_nil]); first | done | rfl | (simp only [List.length_drop, List.length_take]; rfl)) ?_
           with_reducible refine (segment_Append.calls k2 x333000_2 x333001_2 _ _ x333002_2 ((rd_T23 l1 x7_2).f1) ((rd_T23 l1 x7_2).f2) ((rd_T23 l1 x7_2).f3) t336 t337 t338 t341 t342 _ ?side1 ?side2 A17.out).mono ?_
           (case side1 => exact Hlp.cp (Kd.R_reads' HO_333002.out).2.2)
           (case side2 => exact (Kd.R_reads' HO_333002.out).2.1)
           rintro e w77 ⟨v339, rfl, ho0, hb⟩
           refine ⟨_, rfl, ?_⟩
           replace HO_6 := Aside0.mk (Kd.R_below (Hlp.rp HO_6.out) hb)
           have HO340 := Aside0.mk (Kd.R_lower (Kd.R_new' ho0 (Kd.R_lt (Hlp.rp HO_333002.out))) (below_size (Hlp.bl HB.out)))
           replace HO_333002 := Aside0.mk (Kd.R_elder' (Hlp.rp HO_333002.out) (Kd.R_base ho0) hb)
           replace BK332 := Aside0.mk (blk_below (g := gb332) (o := .cells #[.int .i64 x333000_2, .int .i64 x333001_2, .slice Ao74 x333002_2.length co74] 43 (0, 0)) (Hlp.bp BK332.out) hb)
           replace BK343 := Aside0.mk (blk_below (g := gb343) (o := .cells #[.int .i64 0, .int .i64 0, .slice none 0 0] 43 (0, 0)) (Hlp.bp BK343.out) hb)
           replace HB := Aside0.mk (below_step (Hlp.bl HB.out) hb)
           (try clear hb)
           (try clear hb2)
           (try clear hk)
           (try clear hi)
           (try clear ho0)
           refine hK.out _ _ ⟨(blk_cell BK332.out 0).trans rfl, (blk_cell BK332.out 1).trans rfl, (blk_cell BK332.out 2).trans rfl, ((HB.out.cell (World.block_lt_of_cell? w _ hw333_0)).trans hw333_0), ((HB.out.cell (World.block_lt_of_cell? w _ hw333_1)).trans hw333_1), ((HB.out.cell (World.block_lt_of_cell? w _ hw333_2)).trans hw333_2), ((HB.out.cell (World.block_lt_of_cell? w _ hw333_3)).trans hw333_3), ((HB.out.cell (World.block_lt_of_cell? w _ hw334_0)).trans hw334_0), ((HB.out.cell (World.block_lt_of_cell? w _ hw334_1)).trans hw334_1), ((HB.out.cell (World.block_lt_of_cell? w _ hw334_2)).trans hw334_2), ((HB.out.cell (World.block_lt_of_cell? w _ hw334_3)).trans hw334_3), ((HB.out.cell (World.block_lt_of_cell? w _ hw335_0)).trans hw335_0), ((HB.out.cell (World.block_lt_of_cell? w _ hw335_1)).trans hw335_1), ((HB.out.cell (World.block_lt_of_cell? w _ hw335_2)).trans hw335_2), ((HB.out.cell (World.block_lt_of_cell? w _ hw335_3)).trans hw335_3)⟩ (fun hHeld => ?_)
           clear hK K
           refine norm_ (a' := ?_) ?_ ?_
           rotate_left
           ·
            show Act.put _ (some 48) _ = _
            simp only [Act.put, List.setIfInBounds_toArray, List.set_cons_zero, List.set_cons_succ, i64_w, i32_w]
            rfl
           refine pure_ (i := 17) (N := some 31) (v := ?_) (a' := ?_) #[true, true, true, true, true, true, true, true, true, true, true, true, true, true, true, true, true, true, false, false, false, true, false, false, false] rfl rfl (any_of HT_.out (by kernel_rfl)) (fun _ _ _ h => h) (Or.inl ⟨by rfl, ?_⟩) ?_ ?_
           rotate_left
           ·
            intro w'
            go_simp
            with_reducible rfl
           rotate_left
           ·
            simp only [Act.put, List.setIfInBounds_toArray, List.set_cons_zero, List.set_cons_succ, i64_w, i32_w]
            rfl
           refine pure_ (i := 18) (N := some 49) (v := ?_) (a' := ?_) #[true, true, true, true, true, true, true, true, true, true, true, true, true, true, true, true, true, true, true, false, false, true, false, false, false] rfl rfl (any_of HT_.out (by kernel_rfl)) (fun _ _ _ h => h) (Or.inl ⟨by rfl, ?_⟩) ?_ ?_
           rotate_left
           ·
            intro w'
            go_simp
            with_reducible rfl
           rotate_left
           ·
            simp only [Act.put, List.setIfInBounds_toArray, List.set_cons_zero, List.set_cons_succ, i64_w, i32_w]
            rfl
           refine pure_ (i := 19) (N := some 50) (v := ?_) (a' := ?_) #[true, true, true, true, true, true, true, true, true, true, true, true, true, true, true, true, true, true, true, true, false, true, false, false, false] rfl rfl (any_of HT_.out (by kernel_rfl)) (fun _ _ _ h => h) (Or.inl ⟨by rfl, ?_⟩) ?_ ?_
           rotate_left
           ·
            intro w'
            go_simp
            with_reducible rfl
           rotate_left
           ·
            simp only [Act.put, List.setIfInBounds_toArray, List.set_cons_zero, List.set_cons_succ, i64_w, i32_w]
            rfl
           refine pure_ (i := 20) (N := some 51) (v := ?_) (a' := ?_) #[true, true, true, true, true, true, true, true, true, true, true, true, true, true, true, true, true, true, true, true, true, true, false, false, false] rfl rfl (any_of HT_.out (by kernel_rfl)) (fun _ _ _ h => h) (Or.inl ⟨by rfl, ?_⟩) ?_ ?_
           rotate_left
           ·
            intro w'
            go_simp
            with_reducible rfl
           rotate_left
           ·
            simp only [Act.put, List.setIfInBounds_toArray, List.set_cons_zero, List.set_cons_succ, i64_w, i32_w]
            rfl
           exact norm_ (by simp only [putAll, Act.put, List.setIfInBounds_toArray, List.set_cons_zero, List.set_cons_succ]) (hCont (v339, gb343) _ ⟨hHeld, (by (with_reducible repeat (first | apply Kd.R_alloc | apply Kd.R_drewN | apply Kd.R_drew)); exact Kd.R_mono HO340.out (fun _ hk => hk.2)), (by (with_reducible repeat (first | apply Kd.R_alloc | apply Kd.R_drewN | apply Kd.R_drew)); exact Kd.R_mono HO_333002.out (fun _ hk => hk.2)), (Hlp.rp HO_6.out), (Hlp.bp BK332.out), (Hlp.bp BK343.out), GW343.out, GE343.out, NB332_343.out, NB343_332.out, (Hlp.bl HB.out)⟩)
         rintro ⟨v339, gb343⟩ w78 ⟨hS_, h0_, h1_, h2_, h3_, h4_, h5_, h6_, h7_, h8_, h9_⟩
         have n0_ : Aside0 (Kd.R (Kd.int .u8) 5 w78 w.heap.size (fun k_ => some k_ ≠ (.slice Ao74 x333002_2.length co74 : Value).ownBlock) v339 t338) := ⟨h0_⟩
         have n1_ : Aside0 (Kd.R (Kd.int .u8) 5 w78 w.heap.size (fun k_ => some k_ ≠ (v339 : Value).ownBlock) (.slice Ao74 x333002_2.length co74) x333002_2) := ⟨h1_⟩
         have n2_ : Aside0 (Kd.R k23 23 w78 w.heap.size (fun _ => True) u6 x6_2) := ⟨h2_⟩
         have n3_ : Aside0 (w78.heap[gb332]? = some (.cells #[.int .i64 x333000_2, .int .i64 x333001_2, .slice Ao74 x333002_2.length co74] 43 (0, 0))) := ⟨h3_⟩
         have n4_ : Aside0 (w78.heap[gb343]? = some (.cells #[.int .i64 0, .int .i64 0, .slice none 0 0] 43 (0, 0))) := ⟨h4_⟩
         have n5_ : Aside0 (w.heap.size ≤ gb343) := ⟨h5_⟩
         have n6_ : Aside0 (w.heap.size ≤ gb343) := ⟨h6_⟩
         have n7_ : Aside0 (gb332 ≠ gb343) := ⟨h7_⟩
         have n8_ : Aside0 (gb343 ≠ gb332) := ⟨h8_⟩
         have n9_ : Aside0 (Below w.heap.size w w78) := ⟨h9_⟩
         clear HO_6
         clear HO_333002
         clear BK332
         clear HB
         clear h0_ h1_ h2_ h3_ h4_ h5_ h6_ h7_ h8_ h9_
         have HO340 := n0_
         have HO_333002 := n1_
         have HO_6 := n2_
         have BK332 := n3_
         have BK343 := n4_
         have GW343 := n5_
         have GE343 := n6_
         have NB332_343 := n7_
         have NB343_332 := n8_
         have HB := n9_
         clear n0_ n1_ n2_ n3_ n4_ n5_ n6_ n7_ n8_ n9_
         have hHeld : w78.cell? ⟨gb332, 0, none⟩ = some (.int .i64 x333000_2) ∧ w78.cell? ⟨gb332, 1, none⟩ = some (.int .i64 x333001_2) ∧ w78.cell? ⟨gb332, 2, none⟩ = some (.slice Ao74 x333002_2.length co74) ∧ w78.cell? (ad333.add ((x7_2).toNat * 4)) = some (.int .i64 ((rd_T23 l1 x7_2).f0)) ∧ w78.cell? ⟨(ad333.add ((x7_2).toNat * 4)).block, (ad333.add ((x7_2).toNat * 4)).off + 1, none⟩ = some (.int .i64 ((rd_T23 l1 x7_2).f1)) ∧ w78.cell? ⟨(ad333.add ((x7_2).toNat * 4)).block, (ad333.add ((x7_2).toNat * 4)).off + 2, none⟩ = some (.string ((rd_T23 l1 x7_2).f2)) ∧ w78.cell? ⟨(ad333.add ((x7_2).toNat * 4)).block, (ad333.add ((x7_2).toNat * 4)).off + 3, none⟩ = some (.string ((rd_T23 l1 x7_2).f3)) ∧ w78.cell? (ad333.add ((x7_2).toNat * 4)) = some (.int .i64 ((rd_T23 l1 x7_2).f0)) ∧ w78.cell? ⟨(ad333.add ((x7_2).toNat * 4)).block, (ad333.add ((x7_2).toNat * 4)).off + 1, none⟩ = some (.int .i64 ((rd_T23 l1 x7_2).f1)) ∧ w78.cell? ⟨(ad333.add ((x7_2).toNat * 4)).block, (ad333.add ((x7_2).toNat * 4)).off + 2, none⟩ = some (.string ((rd_T23 l1 x7_2).f2)) ∧ w78.cell? ⟨(ad333.add ((x7_2).toNat * 4)).block, (ad333.add ((x7_2).toNat * 4)).off + 3, none⟩ = some (.string ((rd_T23 l1 x7_2).f3)) ∧ w78.cell? (ad333.add ((x7_2).toNat * 4)) = some (.int .i64 ((rd_T23 l1 x7_2).f0)) ∧ w78.cell? ⟨(ad333.add ((x7_2).toNat * 4)).block, (ad333.add ((x7_2).toNat * 4)).off + 1, none⟩ = some (.int .i64 ((rd_T23 l1 x7_2).f1)) ∧ w78.cell? ⟨(ad333.add ((x7_2).toNat * 4)).block, (ad333.add ((x7_2).toNat * 4)).off + 2, none⟩ = some (.string ((rd_T23 l1 x7_2).f2)) ∧ w78.cell? ⟨(ad333.add ((x7_2).toNat * 4)).block, (ad333.add ((x7_2).toNat * 4)).off + 3, none⟩ = some (.string ((rd_T23 l1 x7_2).f3)) := hS_
         obtain ⟨Ao81, co81, eo81⟩ := Kd.R_slice HO340.out
         (first | subst eo81 | (injection eo81 with f1_ f2_ f3_; have f4_ := f1_.symm; have f5_ := f3_.symm; clear f1_ f2_ f3_; subst f4_; subst f5_))
         refine norm_ (a' := ?_) ?_ ?_
         rotate_left
         ·
          simp only [putAll, Act.put, List.setIfInBounds_toArray, List.set_cons_zero, List.set_cons_succ]
          rfl
         refine one_ (i := 22) (N := none) #[true, true, true, true, true, true, true, true, true, true, true, true, true, true, true, true, true, true, true, true, true, true, true, false, false] rfl rfl (one_of HT_.out (by kernel_rfl)) (by decide) (fun K hK => ?_)
         have hs79 : w78.cell? ⟨gb343, 0, none⟩ = some (.int .i64 0) := (blk_cell BK343.out 0).trans rfl
         have hfs79 := blk_frozen BK343.out 0
         have hns79_0 := NB332_343.out
         have hms79_0 := NB343_332.out
         have hs80 : w78.cell? ⟨gb343, 1, none⟩ = some (.int .i64 0) := (blk_cell BK343.out 1).trans rfl
         have hfs80 := blk_frozen BK343.out 1
         have hns80_0 := NB332_343.out
         have hms80_0 := NB343_332.out
         have hs82 : w78.cell? ⟨gb343, 2, none⟩ = some (.slice none 0 0) := (blk_cell BK343.out 2).trans rfl
         have hfs82 := blk_frozen BK343.out 2
         have hns82_0 := NB332_343.out
         have hms82_0 := NB343_332.out
         refine skip_ (w1 := ?_) (by rfl) rfl ?_ ?_
         rotate_left
         ·
          go_simp
          rfl
         refine hK.out _ _ ⟨((cell_far (p := ⟨gb343, _, none⟩) NB332_343.out _).trans (((cell_far (p := ⟨gb343, _, none⟩) NB332_343.out _).trans (((cell_far (p := ⟨gb343, _, none⟩) NB332_343.out _).trans (hHeld.1)))))), ((cell_far (p := ⟨gb343, _, none⟩) NB332_343.out _).trans (((cell_far (p := ⟨gb343, _, none⟩) NB332_343.out _).trans (((cell_far (p := ⟨gb343, _, none⟩) NB332_343.out _).trans (hHeld.2.1)))))), ((cell_far (p := ⟨gb343, _, none⟩) NB332_343.out _).trans (((cell_far (p := ⟨gb343, _, none⟩) NB332_343.out _).trans (((cell_far (p := ⟨gb343, _, none⟩) NB332_343.out _).trans (hHeld.2.2.1)))))), ((cell_far (p := ⟨gb343, _, none⟩) (by first | exact Nat.ne_of_lt (Nat.lt_of_lt_of_le (by have := World.block_lt_of_cell? _ _ hw333_0; first | rwa [add_block] at this | exact this) GW343.out) | (rw [add_block]; exact Nat.ne_of_lt (Nat.lt_of_lt_of_le (by have := World.block_lt_of_cell? _ _ hw333_0; first | rwa [add_block] at this | exact this) GW343.out)) | (show (Addr.add _ _).block ≠ _; rw [add_block]; exact Nat.ne_of_lt (Nat.lt_of_lt_of_le (by have := World.block_lt_of_cell? _ _ hw333_0; first | rwa [add_block] at this | exact this) GW343.out)) | (dsimp only; exact Nat.ne_of_lt (Nat.lt_of_lt_of_le (by have := World.block_lt_of_cell? _ _ hw333_0; first | rwa [add_block] at this | exact this) GW343.out))) _).trans (((cell_far (p := ⟨gb343, _, none⟩) (by first | exact Nat.ne_of_lt (Nat.lt_of_lt_of_le (by have := World.block_lt_of_cell? _ _ hw333_0; first | rwa [add_block] at this | exact this) GW343.out) | (rw [add_block]; exact Nat.ne_of_lt (Nat.lt_of_lt_of_le (by have := World.block_lt_of_cell? _ _ hw333_0; first | rwa [add_block] at this | exact this) GW343.out)) | (show (Addr.add _ _).block ≠ _; rw [add_block]; exact Nat.ne_of_lt (Nat.lt_of_lt_of_le (by have := World.block_lt_of_cell? _ _ hw333_0; first | rwa [add_block] at this | exact this) GW343.out)) | (dsimp only; exact Nat.ne_of_lt (Nat.lt_of_lt_of_le (by have := World.block_lt_of_cell? _ _ hw333_0; first | rwa [add_block] at this | exact this) GW343.out))) _).trans (((cell_far (p := ⟨gb343, _, none⟩) (by first | exact Nat.ne_of_lt (Nat.lt_of_lt_of_le (by have := World.block_lt_of_cell? _ _ hw333_0; first | rwa [add_block] at this | exact this) GW343.out) | (rw [add_block]; exact Nat.ne_of_lt (Nat.lt_of_lt_of_le (by have := World.block_lt_of_cell? _ _ hw333_0; first | rwa [add_block] at this | exact this) GW343.out)) | (show (Addr.add _ _).block ≠ _; rw [add_block]; exact Nat.ne_of_lt (Nat.lt_of_lt_of_le (by have := World.block_lt_of_cell? _ _ hw333_0; first | rwa [add_block] at this | exact this) GW343.out)) | (dsimp only; exact Nat.ne_of_lt (Nat.lt_of_lt_of_le (by have := World.block_lt_of_cell? _ _ hw333_0; first | rwa [add_block] at this | exact this) GW343.out))) _).trans (hHeld.2.2.2.1)))))), ((cell_far (p := ⟨gb343, _, none⟩) (by first | exact Nat.ne_of_lt (Nat.lt_of_lt_of_le (by have := World.block_lt_of_cell? _ _ hw333_1; first | rwa [add_block] at this | exact this) GW343.out) | (rw [add_block]; exact Nat.ne_of_lt (Nat.lt_of_lt_of_le (by have := World.block_lt_of_cell? _ _ hw333_1; first | rwa [add_block] at this | exact this) GW343.out)) | (show (Addr.add _ _).block ≠ _; rw [add_block]; exact Nat.ne_of_lt (Nat.lt_of_lt_of_le (by have := World.block_lt_of_cell? _ _ hw333_1; first | rwa [add_block] at this | exact this) GW343.out)) | (dsimp only; exact Nat.ne_of_lt (Nat.lt_of_lt_of_le (by have := World.block_lt_of_cell? _ _ hw333_1; first | rwa [add_block] at this | exact this) GW343.out))) _).trans (((cell_far (p := ⟨gb343, _, none⟩) (by first | exact Nat.ne_of_lt (Nat.lt_of_lt_of_le (by have := World.block_lt_of_cell? _ _ hw333_1; first | rwa [add_block] at this | exact this) GW343.out) | (rw [add_block]; exact Nat.ne_of_lt (Nat.lt_of_lt_of_le (by have := World.block_lt_of_cell? _ _ hw333_1; first | rwa [add_block] at this | exact this) GW343.out)) | (show (Addr.add _ _).block ≠ _; rw [add_block]; exact Nat.ne_of_lt (Nat.lt_of_lt_of_le (by have := World.block_lt_of_cell? _ _ hw333_1; first | rwa [add_block] at this | exact this) GW343.out)) | (dsimp only; exact Nat.ne_of_lt (Nat.lt_of_lt_of_le (by have := World.block_lt_of_cell? _ _ hw333_1; first | rwa [add_block] at this | exact this) GW343.out))) _).trans (((cell_far (p := ⟨gb343, _, none⟩) (by first | exact Nat.ne_of_lt (Nat.lt_of_lt_of_le (by have := World.block_lt_of_cell? _ _ hw333_1; first | rwa [add_block] at this | exact this) GW343.out) | (rw [add_block]; exact Nat.ne_of_lt (Nat.lt_of_lt_of_le (by have := World.block_lt_of_cell? _ _ hw333_1; first | rwa [add_block] at this | exact this) GW343.out)) | (show (Addr.add _ _).block ≠ _; rw [add_block]; exact Nat.ne_of_lt (Nat.lt_of_lt_of_le (by have := World.block_lt_of_cell? _ _ hw333_1; first | rwa [add_block] at this | exact this) GW343.out)) | (dsimp only; exact Nat.ne_of_lt (Nat.lt_of_lt_of_le (by have := World.block_lt_of_cell? _ _ hw333_1; first | rwa [add_block] at this | exact this) GW343.out))) _).trans (hHeld.2.2.2.2.1)))))), ((cell_far (p := ⟨gb343, _, none⟩) (by first | exact Nat.ne_of_lt (Nat.lt_of_lt_of_le (by have := World.block_lt_of_cell? _ _ hw333_2; first | rwa [add_block] at this | exact this) GW343.out) | (rw [add_block]; exact Nat.ne_of_lt (Nat.lt_of_lt_of_le (by have := World.block_lt_of_cell? _ _ hw333_2; first | rwa [add_block] at this | exact this) GW343.out)) | (show (Addr.add _ _).block ≠ _; rw [add_block]; exact Nat.ne_of_lt (Nat.lt_of_lt_of_le (by have := World.block_lt_of_cell? _ _ hw333_2; first | rwa [add_block] at this | exact this) GW343.out)) | (dsimp only; exact Nat.ne_of_lt (Nat.lt_of_lt_of_le (by have := World.block_lt_of_cell? _ _ hw333_2; first | rwa [add_block] at this | exact this) GW343.out))) _).trans (((cell_far (p := ⟨gb343, _, none⟩) (by first | exact Nat.ne_of_lt (Nat.lt_of_lt_of_le (by have := World.block_lt_of_cell? _ _ hw333_2; first | rwa [add_block] at this | exact this) GW343.out) | (rw [add_block]; exact Nat.ne_of_lt (Nat.lt_of_lt_of_le (by have := World.block_lt_of_cell? _ _ hw333_2; first | rwa [add_block] at this | exact this) GW343.out)) | (show (Addr.add _ _).block ≠ _; rw [add_block]; exact Nat.ne_of_lt (Nat.lt_of_lt_of_le (by have := World.block_lt_of_cell? _ _ hw333_2; first | rwa [add_block] at this | exact this) GW343.out)) | (dsimp only; exact Nat.ne_of_lt (Nat.lt_of_lt_of_le (by have := World.block_lt_of_cell? _ _ hw333_2; first | rwa [add_block] at this | exact this) GW343.out))) _).trans (((cell_far (p := ⟨gb343, _, none⟩) (by first | exact Nat.ne_of_lt (Nat.lt_of_lt_of_le (by have := World.block_lt_of_cell? _ _ hw333_2; first | rwa [add_block] at this | exact this) GW343.out) | (rw [add_block]; exact Nat.ne_of_lt (Nat.lt_of_lt_of_le (by have := World.block_lt_of_cell? _ _ hw333_2; first | rwa [add_block] at this | exact this) GW343.out)) | (show (Addr.add _ _).block ≠ _; rw [add_block]; exact Nat.ne_of_lt (Nat.lt_of_lt_of_le (by have := World.block_lt_of_cell? _ _ hw333_2; first | rwa [add_block] at this | exact this) GW343.out)) | (dsimp only; exact Nat.ne_of_lt (Nat.lt_of_lt_of_le (by have := World.block_lt_of_cell? _ _ hw333_2; first | rwa [add_block] at this | exact this) GW343.out))) _).trans (hHeld.2.2.2.2.2.1)))))), ((cell_far (p := ⟨gb343, _, none⟩) (by first | exact Nat.ne_of_lt (Nat.lt_of_lt_of_le (by have := World.block_lt_of_cell? _ _ hw333_3; first | rwa [add_block] at this | exact this) GW343.out) | (rw [add_block]; exact Nat.ne_of_lt (Nat.lt_of_lt_of_le (by have := World.block_lt_of_cell? _ _ hw333_3; first | rwa [add_block] at this | exact this) GW343.out)) | (show (Addr.add _ _).block ≠ _; rw [add_block]; exact Nat.ne_of_lt (Nat.lt_of_lt_of_le (by have := World.block_lt_of_cell? _ _ hw333_3; first | rwa [add_block] at this | exact this) GW343.out)) | (dsimp only; exact Nat.ne_of_lt (Nat.lt_of_lt_of_le (by have := World.block_lt_of_cell? _ _ hw333_3; first | rwa [add_block] at this | exact this) GW343.out))) _).trans (((cell_far (p := ⟨gb343, _, none⟩) (by first | exact Nat.ne_of_lt (Nat.lt_of_lt_of_le (by have := World.block_lt_of_cell? _ _ hw333_3; first | rwa [add_block] at this | exact this) GW343.out) | (rw [add_block]; exact Nat.ne_of_lt (Nat.lt_of_lt_of_le (by have := World.block_lt_of_cell? _ _ hw333_3; first | rwa [add_block] at this | exact this) GW343.out)) | (show (Addr.add _ _).block ≠ _; rw [add_block]; exact Nat.ne_of_lt (Nat.lt_of_lt_of_le (by have := World.block_lt_of_cell? _ _ hw333_3; first | rwa [add_block] at this | exact this) GW343.out)) | (dsimp only; exact Nat.ne_of_lt (Nat.lt_of_lt_of_le (by have := World.block_lt_of_cell? _ _ hw333_3; first | rwa [add_block] at this | exact this) GW343.out))) _).trans (((cell_far (p := ⟨gb343, _, none⟩) (by first | exact Nat.ne_of_lt (Nat.lt_of_lt_of_le (by have := World.block_lt_of_cell? _ _ hw333_3; first | rwa [add_block] at this | exact this) GW343.out) | (rw [add_block]; exact Nat.ne_of_lt (Nat.lt_of_lt_of_le (by have := World.block_lt_of_cell? _ _ hw333_3; first | rwa [add_block] at this | exact this) GW343.out)) | (show (Addr.add _ _).block ≠ _; rw [add_block]; exact Nat.ne_of_lt (Nat.lt_of_lt_of_le (by have := World.block_lt_of_cell? _ _ hw333_3; first | rwa [add_block] at this | exact this) GW343.out)) | (dsimp only; exact Nat.ne_of_lt (Nat.lt_of_lt_of_le (by have := World.block_lt_of_cell? _ _ hw333_3; first | rwa [add_block] at this | exact this) GW343.out))) _).trans (hHeld.2.2.2.2.2.2.1)))))), ((cell_far (p := ⟨gb343, _, none⟩) (by first | exact Nat.ne_of_lt (Nat.lt_of_lt_of_le (by have := World.block_lt_of_cell? _ _ hw334_0; first | rwa [add_block] at this | exact this) GW343.out) | (rw [add_block]; exact Nat.ne_of_lt (Nat.lt_of_lt_of_le (by have := World.block_lt_of_cell? _ _ hw334_0; first | rwa [add_block] at this | exact this) GW343.out)) | (show (Addr.add _ _).block ≠ _; rw [add_block]; exact Nat.ne_of_lt (Nat.lt_of_lt_of_le (by have := World.block_lt_of_cell? _ _ hw334_0; first | rwa [add_block] at this | exact this) GW343.out)) | (dsimp only; exact Nat.ne_of_lt (Nat.lt_of_lt_of_le (by have := World.block_lt_of_cell? _ _ hw334_0; first | rwa [add_block] at this | exact this) GW343.out))) _).trans (((cell_far (p := ⟨gb343, _, none⟩) (by first | exact Nat.ne_of_lt (Nat.lt_of_lt_of_le (by have := World.block_lt_of_cell? _ _ hw334_0; first | rwa [add_block] at this | exact this) GW343.out) | (rw [add_block]; exact Nat.ne_of_lt (Nat.lt_of_lt_of_le (by have := World.block_lt_of_cell? _ _ hw334_0; first | rwa [add_block] at this | exact this) GW343.out)) | (show (Addr.add _ _).block ≠ _; rw [add_block]; exact Nat.ne_of_lt (Nat.lt_of_lt_of_le (by have := World.block_lt_of_cell? _ _ hw334_0; first | rwa [add_block] at this | exact this) GW343.out)) | (dsimp only; exact Nat.ne_of_lt (Nat.lt_of_lt_of_le (by have := World.block_lt_of_cell? _ _ hw334_0; first | rwa [add_block] at this | exact this) GW343.out))) _).trans (((cell_far (p := ⟨gb343, _, none⟩) (by first | exact Nat.ne_of_lt (Nat.lt_of_lt_of_le (by have := World.block_lt_of_cell? _ _ hw334_0; first | rwa [add_block] at this | exact this) GW343.out) | (rw [add_block]; exact Nat.ne_of_lt (Nat.lt_of_lt_of_le (by have := World.block_lt_of_cell? _ _ hw334_0; first | rwa [add_block] at this | exact this) GW343.out)) | (show (Addr.add _ _).block ≠ _; rw [add_block]; exact Nat.ne_of_lt (Nat.lt_of_lt_of_le (by have := World.block_lt_of_cell? _ _ hw334_0; first | rwa [add_block] at this | exact this) GW343.out)) | (dsimp only; exact Nat.ne_of_lt (Nat.lt_of_lt_of_le (by have := World.block_lt_of_cell? _ _ hw334_0; first | rwa [add_block] at this | exact this) GW343.out))) _).trans (hHeld.2.2.2.2.2.2.2.1)))))), ((cell_far (p := ⟨gb343, _, none⟩) (by first | exact Nat.ne_of_lt (Nat.lt_of_lt_of_le (by have := World.block_lt_of_cell? _ _ hw334_1; first | rwa [add_block] at this | exact this) GW343.out) | (rw [add_block]; exact Nat.ne_of_lt (Nat.lt_of_lt_of_le (by have := World.block_lt_of_cell? _ _ hw334_1; first | rwa [add_block] at this | exact this) GW343.out)) | (show (Addr.add _ _).block ≠ _; rw [add_block]; exact Nat.ne_of_lt (Nat.lt_of_lt_of_le (by have := World.block_lt_of_cell? _ _ hw334_1; first | rwa [add_block] at this | exact this) GW343.out)) | (dsimp only; exact Nat.ne_of_lt (Nat.lt_of_lt_of_le (by have := World.block_lt_of_cell? _ _ hw334_1; first | rwa [add_block] at this | exact this) GW343.out))) _).trans (((cell_far (p := ⟨gb343, _, none⟩) (by first | exact Nat.ne_of_lt (Nat.lt_of_lt_of_le (by have := World.block_lt_of_cell? _ _ hw334_1; first | rwa [add_block] at this | exact this) GW343.out) | (rw [add_block]; exact Nat.ne_of_lt (Nat.lt_of_lt_of_le (by have := World.block_lt_of_cell? _ _ hw334_1; first | rwa [add_block] at this | exact this) GW343.out)) | (show (Addr.add _ _).block ≠ _; rw [add_block]; exact Nat.ne_of_lt (Nat.lt_of_lt_of_le (by have := World.block_lt_of_cell? _ _ hw334_1; first | rwa [add_block] at this | exact this) GW343.out)) | (dsimp only; exact Nat.ne_of_lt (Nat.lt_of_lt_of_le (by have := World.block_lt_of_cell? _ _ hw334_1; first | rwa [add_block] at this | exact this) GW343.out))) _).trans (((cell_far (p := ⟨gb343, _, none⟩) (by first | exact Nat.ne_of_lt (Nat.lt_of_lt_of_le (by have := World.block_lt_of_cell? _ _ hw334_1; first | rwa [add_block] at this | exact this) GW343.out) | (rw [add_block]; exact Nat.ne_of_lt (Nat.lt_of_lt_of_le (by have := World.block_lt_of_cell? _ _ hw334_1; first | rwa [add_block] at this | exact this) GW343.out)) | (show (Addr.add _ _).block ≠ _; rw [add_block]; exact Nat.ne_of_lt (Nat.lt_of_lt_of_le (by have := World.block_lt_of_cell? _ _ hw334_1; first | rwa [add_block] at this | exact this) GW343.out)) | (dsimp only; exact Nat.ne_of_lt (Nat.lt_of_lt_of_le (by have := World.block_lt_of_cell? _ _ hw334_1; first | rwa [add_block] at this | exact this) GW343.out))) _).trans (hHeld.2.2.2.2.2.2.2.2.1)))))), ((cell_far (p := ⟨gb343, _, none⟩) (by first | exact Nat.ne_of_lt (Nat.lt_of_lt_of_le (by have := World.block_lt_of_cell? _ _ hw334_2; first | rwa [add_block] at this | exact this) GW343.out) | (rw [add_block]; exact Nat.ne_of_lt (Nat.lt_of_lt_of_le (by have := World.block_lt_of_cell? _ _ hw334_2; first | rwa [add_block] at this | exact this) GW343.out)) | (show (Addr.add _ _).block ≠ _; rw [add_block]; exact Nat.ne_of_lt (Nat.lt_of_lt_of_le (by have := World.block_lt_of_cell? _ _ hw334_2; first | rwa [add_block] at this | exact this) GW343.out)) | (dsimp only; exact Nat.ne_of_lt (Nat.lt_of_lt_of_le (by have := World.block_lt_of_cell? _ _ hw334_2; first | rwa [add_block] at this | exact this) GW343.out))) _).trans (((cell_far (p := ⟨gb343, _, none⟩) (by first | exact Nat.ne_of_lt (Nat.lt_of_lt_of_le (by have := World.block_lt_of_cell? _ _ hw334_2; first | rwa [add_block] at this | exact this) GW343.out) | (rw [add_block]; exact Nat.ne_of_lt (Nat.lt_of_lt_of_le (by have := World.block_lt_of_cell? _ _ hw334_2; first | rwa [add_block] at this | exact this) GW343.out)) | (show (Addr.add _ _).block ≠ _; rw [add_block]; exact Nat.ne_of_lt (Nat.lt_of_lt_of_le (by have := World.block_lt_of_cell? _ _ hw334_2; first | rwa [add_block] at this | exact this) GW343.out)) | (dsimp only; exact Nat.ne_of_lt (Nat.lt_of_lt_of_le (by have := World.block_lt_of_cell? _ _ hw334_2; first | rwa [add_block] at this | exact this) GW343.out))) _).trans (((cell_far (p := ⟨gb343, _, none⟩) (by first | exact Nat.ne_of_lt (Nat.lt_of_lt_of_le (by have := World.block_lt_of_cell? _ _ hw334_2; first | rwa [add_block] at this | exact this) GW343.out) | (rw [add_block]; exact Nat.ne_of_lt (Nat.lt_of_lt_of_le (by have := World.block_lt_of_cell? _ _ hw334_2; first | rwa [add_block] at this | exact this) GW343.out)) | (show (Addr.add _ _).block ≠ _; rw [add_block]; exact Nat.ne_of_lt (Nat.lt_of_lt_of_le (by have := World.block_lt_of_cell? _ _ hw334_2; first | rwa [add_block] at this | exact this) GW343.out)) | (dsimp only; exact Nat.ne_of_lt (Nat.lt_of_lt_of_le (by have := World.block_lt_of_cell? _ _ hw334_2; first | rwa [add_block] at this | exact this) GW343.out))) _).trans (hHeld.2.2.2.2.2.2.2.2.2.1)))))), ((cell_far (p := ⟨gb343, _, none⟩) (by first | exact Nat.ne_of_lt (Nat.lt_of_lt_of_le (by have := World.block_lt_of_cell? _ _ hw334_3; first | rwa [add_block] at this | exact this) GW343.out) | (rw [add_block]; exact Nat.ne_of_lt (Nat.lt_of_lt_of_le (by have := World.block_lt_of_cell? _ _ hw334_3; first | rwa [add_block] at this | exact this) GW343.out)) | (show (Addr.add _ _).block ≠ _; rw [add_block]; exact Nat.ne_of_lt (Nat.lt_of_lt_of_le (by have := World.block_lt_of_cell? _ _ hw334_3; first | rwa [add_block] at this | exact this) GW343.out)) | (dsimp only; exact Nat.ne_of_lt (Nat.lt_of_lt_of_le (by have := World.block_lt_of_cell? _ _ hw334_3; first | rwa [add_block] at this | exact this) GW343.out))) _).trans (((cell_far (p := ⟨gb343, _, none⟩) (by first | exact Nat.ne_of_lt (Nat.lt_of_lt_of_le (by have := World.block_lt_of_cell? _ _ hw334_3; first | rwa [add_block] at this | exact this) GW343.out) | (rw [add_block]; exact Nat.ne_of_lt (Nat.lt_of_lt_of_le (by have := World.block_lt_of_cell? _ _ hw334_3; first | rwa [add_block] at this | exact this) GW343.out)) | (show (Addr.add _ _).block ≠ _; rw [add_block]; exact Nat.ne_of_lt (Nat.lt_of_lt_of_le (by have := World.block_lt_of_cell? _ _ hw334_3; first | rwa [add_block] at this | exact this) GW343.out)) | (dsimp only; exact Nat.ne_of_lt (Nat.lt_of_lt_of_le (by have := World.block_lt_of_cell? _ _ hw334_3; first | rwa [add_block] at this | exact this) GW343.out))) _).trans (((cell_far (p := ⟨gb343, _, none⟩) (by first | exact Nat.ne_of_lt (Nat.lt_of_lt_of_le (by have := World.block_lt_of_cell? _ _ hw334_3; first | rwa [add_block] at this | exact this) GW343.out) | (rw [add_block]; exact Nat.ne_of_lt (Nat.lt_of_lt_of_le (by have := World.block_lt_of_cell? _ _ hw334_3; first | rwa [add_block] at this | exact this) GW343.out)) | (show (Addr.add _ _).block ≠ _; rw [add_block]; exact Nat.ne_of_lt (Nat.lt_of_lt_of_le (by have := World.block_lt_of_cell? _ _ hw334_3; first | rwa [add_block] at this | exact this) GW343.out)) | (dsimp only; exact Nat.ne_of_lt (Nat.lt_of_lt_of_le (by have := World.block_lt_of_cell? _ _ hw334_3; first | rwa [add_block] at this | exact this) GW343.out))) _).trans (hHeld.2.2.2.2.2.2.2.2.2.2.1)))))), ((cell_far (p := ⟨gb343, _, none⟩) (by first | exact Nat.ne_of_lt (Nat.lt_of_lt_of_le (by have := World.block_lt_of_cell? _ _ hw335_0; first | rwa [add_block] at this | exact this) GW343.out) | (rw [add_block]; exact Nat.ne_of_lt (Nat.lt_of_lt_of_le (by have := World.block_lt_of_cell? _ _ hw335_0; first | rwa [add_block] at this | exact this) GW343.out)) | (show (Addr.add _ _).block ≠ _; rw [add_block]; exact Nat.ne_of_lt (Nat.lt_of_lt_of_le (by have := World.block_lt_of_cell? _ _ hw335_0; first | rwa [add_block] at this | exact this) GW343.out)) | (dsimp only; exact Nat.ne_of_lt (Nat.lt_of_lt_of_le (by have := World.block_lt_of_cell? _ _ hw335_0; first | rwa [add_block] at this | exact this) GW343.out))) _).trans (((cell_far (p := ⟨gb343, _, none⟩) (by first | exact Nat.ne_of_lt (Nat.lt_of_lt_of_le (by have := World.block_lt_of_cell? _ _ hw335_0; first | rwa [add_block] at this | exact this) GW343.out) | (rw [add_block]; exact Nat.ne_of_lt (Nat.lt_of_lt_of_le (by have := World.block_lt_of_cell? _ _ hw335_0; first | rwa [add_block] at this | exact this) GW343.out)) | (show (Addr.add _ _).block ≠ _; rw [add_block]; exact Nat.ne_of_lt (Nat.lt_of_lt_of_le (by have := World.block_lt_of_cell? _ _ hw335_0; first | rwa [add_block] at this | exact this) GW343.out)) | (dsimp only; exact Nat.ne_of_lt (Nat.lt_of_lt_of_le (by have := World.block_lt_of_cell? _ _ hw335_0; first | rwa [add_block] at this | exact this) GW343.out))) _).trans (((cell_far (p := ⟨gb343, _, none⟩) (by first | exact Nat.ne_of_lt (Nat.lt_of_lt_of_le (by have := World.block_lt_of_cell? _ _ hw335_0; first | rwa [add_block] at this | exact this) GW343.out) | (rw [add_block]; exact Nat.ne_of_lt (Nat.lt_of_lt_of_le (by have := World.block_lt_of_cell? _ _ hw335_0; first | rwa [add_block] at this | exact this) GW343.out)) | (show (Addr.add _ _).block ≠ _; rw [add_block]; exact Nat.ne_of_lt (Nat.lt_of_lt_of_le (by have := World.block_lt_of_cell? _ _ hw335_0; first | rwa [add_block] at this | exact this) GW343.out)) | (dsimp only; exact Nat.ne_of_lt (Nat.lt_of_lt_of_le (by have := World.block_lt_of_cell? _ _ hw335_0; first | rwa [add_block] at this | exact this) GW343.out))) _).trans (hHeld.2.2.2.2.2.2.2.2.2.2.2.1)))))), ((cell_far (p := ⟨gb343, _, none⟩) (by first | exact Nat.ne_of_lt (Nat.lt_of_lt_of_le (by have := World.block_lt_of_cell? _ _ hw335_1; first | rwa [add_block] at this | exact this) GW343.out) | (rw [add_block]; exact Nat.ne_of_lt (Nat.lt_of_lt_of_le (by have := World.block_lt_of_cell? _ _ hw335_1; first | rwa [add_block] at this | exact this) GW343.out)) | (show (Addr.add _ _).block ≠ _; rw [add_block]; exact Nat.ne_of_lt (Nat.lt_of_lt_of_le (by have := World.block_lt_of_cell? _ _ hw335_1; first | rwa [add_block] at this | exact this) GW343.out)) | (dsimp only; exact Nat.ne_of_lt (Nat.lt_of_lt_of_le (by have := World.block_lt_of_cell? _ _ hw335_1; first | rwa [add_block] at this | exact this) GW343.out))) _).trans (((cell_far (p := ⟨gb343, _, none⟩) (by first | exact Nat.ne_of_lt (Nat.lt_of_lt_of_le (by have := World.block_lt_of_cell? _ _ hw335_1; first | rwa [add_block] at this | exact this) GW343.out) | (rw [add_block]; exact Nat.ne_of_lt (Nat.lt_of_lt_of_le (by have := World.block_lt_of_cell? _ _ hw335_1; first | rwa [add_block] at this | exact this) GW343.out)) | (show (Addr.add _ _).block ≠ _; rw [add_block]; exact Nat.ne_of_lt (Nat.lt_of_lt_of_le (by have := World.block_lt_of_cell? _ _ hw335_1; first | rwa [add_block] at this | exact this) GW343.out)) | (dsimp only; exact Nat.ne_of_lt (Nat.lt_of_lt_of_le (by have := World.block_lt_of_cell? _ _ hw335_1; first | rwa [add_block] at this | exact this) GW343.out))) _).trans (((cell_far (p := ⟨gb343, _, none⟩) (by first | exact Nat.ne_of_lt (Nat.lt_of_lt_of_le (by have := World.block_lt_of_cell? _ _ hw335_1; first | rwa [add_block] at this | exact this) GW343.out) | (rw [add_block]; exact Nat.ne_of_lt (Nat.lt_of_lt_of_le (by have := World.block_lt_of_cell? _ _ hw335_1; first | rwa [add_block] at this | exact this) GW343.out)) | (show (Addr.add _ _).block ≠ _; rw [add_block]; exact Nat.ne_of_lt (Nat.lt_of_lt_of_le (by have := World.block_lt_of_cell? _ _ hw335_1; first | rwa [add_block] at this | exact this) GW343.out)) | (dsimp only; exact Nat.ne_of_lt (Nat.lt_of_lt_of_le (by have := World.block_lt_of_cell? _ _ hw335_1; first | rwa [add_block] at this | exact this) GW343.out))) _).trans (hHeld.2.2.2.2.2.2.2.2.2.2.2.2.1)))))), ((cell_far (p := ⟨gb343, _, none⟩) (by first | exact Nat.ne_of_lt (Nat.lt_of_lt_of_le (by have := World.block_lt_of_cell? _ _ hw335_2; first | rwa [add_block] at this | exact this) GW343.out) | (rw [add_block]; exact Nat.ne_of_lt (Nat.lt_of_lt_of_le (by have := World.block_lt_of_cell? _ _ hw335_2; first | rwa [add_block] at this | exact this) GW343.out)) | (show (Addr.add _ _).block ≠ _; rw [add_block]; exact Nat.ne_of_lt (Nat.lt_of_lt_of_le (by have := World.block_lt_of_cell? _ _ hw335_2; first | rwa [add_block] at this | exact this) GW343.out)) | (dsimp only; exact Nat.ne_of_lt (Nat.lt_of_lt_of_le (by have := World.block_lt_of_cell? _ _ hw335_2; first | rwa [add_block] at this | exact this) GW343.out))) _).trans (((cell_far (p := ⟨gb343, _, none⟩) (by first | exact Nat.ne_of_lt (Nat.lt_of_lt_of_le (by have := World.block_lt_of_cell? _ _ hw335_2; first | rwa [add_block] at this | exact this) GW343.out) | (rw [add_block]; exact Nat.ne_of_lt (Nat.lt_of_lt_of_le (by have := World.block_lt_of_cell? _ _ hw335_2; first | rwa [add_block] at this | exact this) GW343.out)) | (show (Addr.add _ _).block ≠ _; rw [add_block]; exact Nat.ne_of_lt (Nat.lt_of_lt_of_le (by have := World.block_lt_of_cell? _ _ hw335_2; first | rwa [add_block] at this | exact this) GW343.out)) | (dsimp only; exact Nat.ne_of_lt (Nat.lt_of_lt_of_le (by have := World.block_lt_of_cell? _ _ hw335_2; first | rwa [add_block] at this | exact this) GW343.out))) _).trans (((cell_far (p := ⟨gb343, _, none⟩) (by first | exact Nat.ne_of_lt (Nat.lt_of_lt_of_le (by have := World.block_lt_of_cell? _ _ hw335_2; first | rwa [add_block] at this | exact this) GW343.out) | (rw [add_block]; exact Nat.ne_of_lt (Nat.lt_of_lt_of_le (by have := World.block_lt_of_cell? _ _ hw335_2; first | rwa [add_block] at this | exact this) GW343.out)) | (show (Addr.add _ _).block ≠ _; rw [add_block]; exact Nat.ne_of_lt (Nat.lt_of_lt_of_le (by have := World.block_lt_of_cell? _ _ hw335_2; first | rwa [add_block] at this | exact this) GW343.out)) | (dsimp only; exact Nat.ne_of_lt (Nat.lt_of_lt_of_le (by have := World.block_lt_of_cell? _ _ hw335_2; first | rwa [add_block] at this | exact this) GW343.out))) _).trans (hHeld.2.2.2.2.2.2.2.2.2.2.2.2.2.1)))))), ((cell_far (p := ⟨gb343, _, none⟩) (by first | exact Nat.ne_of_lt (Nat.lt_of_lt_of_le (by have := World.block_lt_of_cell? _ _ hw335_3; first | rwa [add_block] at this | exact this) GW343.out) | (rw [add_block]; exact Nat.ne_of_lt (Nat.lt_of_lt_of_le (by have := World.block_lt_of_cell? _ _ hw335_3; first | rwa [add_block] at this | exact this) GW343.out)) | (show (Addr.add _ _).block ≠ _; rw [add_block]; exact Nat.ne_of_lt (Nat.lt_of_lt_of_le (by have := World.block_lt_of_cell? _ _ hw335_3; first | rwa [add_block] at this | exact this) GW343.out)) | (dsimp only; exact Nat.ne_of_lt (Nat.lt_of_lt_of_le (by have := World.block_lt_of_cell? _ _ hw335_3; first | rwa [add_block] at this | exact this) GW343.out))) _).trans (((cell_far (p := ⟨gb343, _, none⟩) (by first | exact Nat.ne_of_lt (Nat.lt_of_lt_of_le (by have := World.block_lt_of_cell? _ _ hw335_3; first | rwa [add_block] at this | exact this) GW343.out) | (rw [add_block]; exact Nat.ne_of_lt (Nat.lt_of_lt_of_le (by have := World.block_lt_of_cell? _ _ hw335_3; first | rwa [add_block] at this | exact this) GW343.out)) | (show (Addr.add _ _).block ≠ _; rw [add_block]; exact Nat.ne_of_lt (Nat.lt_of_lt_of_le (by have := World.block_lt_of_cell? _ _ hw335_3; first | rwa [add_block] at this | exact this) GW343.out)) | (dsimp only; exact Nat.ne_of_lt (Nat.lt_of_lt_of_le (by have := World.block_lt_of_cell? _ _ hw335_3; first | rwa [add_block] at this | exact this) GW343.out))) _).trans (((cell_far (p := ⟨gb343, _, none⟩) (by first | exact Nat.ne_of_lt (Nat.lt_of_lt_of_le (by have := World.block_lt_of_cell? _ _ hw335_3; first | rwa [add_block] at this | exact this) GW343.out) | (rw [add_block]; exact Nat.ne_of_lt (Nat.lt_of_lt_of_le (by have := World.block_lt_of_cell? _ _ hw335_3; first | rwa [add_block] at this | exact this) GW343.out)) | (show (Addr.add _ _).block ≠ _; rw [add_block]; exact Nat.ne_of_lt (Nat.lt_of_lt_of_le (by have := World.block_lt_of_cell? _ _ hw335_3; first | rwa [add_block] at this | exact this) GW343.out)) | (dsimp only; exact Nat.ne_of_lt (Nat.lt_of_lt_of_le (by have := World.block_lt_of_cell? _ _ hw335_3; first | rwa [add_block] at this | exact this) GW343.out))) _).trans (hHeld.2.2.2.2.2.2.2.2.2.2.2.2.2.2))))))⟩ (fun hHeld => ?_)
         clear hK K
         refine pure_ (i := 23) (N := some 9) (v := ?_) (a' := ?_) #[true, true, true, true, true, true, true, true, true, true, true, true, true, true, true, true, true, true, true, true, true, true, true, true, false] rfl rfl (any_of HT_.out (by kernel_rfl)) (fun _ _ _ h => h) (Or.inl ⟨by rfl, ?_⟩) ?_ ?_
         rotate_left
         ·
          intro w'
          go_simp
          with_reducible rfl
         rotate_left
         ·
          simp only [Act.put, List.setIfInBounds_toArray, List.set_cons_zero, List.set_cons_succ, i64_w, i32_w]
          rfl
         refine pure_ (i := 24) (N := some 10) (v := ?_) (a' := ?_) #[true, true, true, true, true, true, true, true, true, true, true, true, true, true, true, true, true, true, true, true, true, true, true, true, true] rfl rfl (any_of HT_.out (by kernel_rfl)) (fun _ _ _ h => h) (Or.inl ⟨by rfl, ?_⟩) ?_ ?_
         rotate_left
         ·
          intro w'
          go_simp
          with_reducible rfl
         rotate_left
         ·
          simp only [Act.put, List.setIfInBounds_toArray, List.set_cons_zero, List.set_cons_succ, i64_w, i32_w]
          rfl
         refine done_ (done_of HT_.out (by kernel_rfl)) ?_
         try go_wp2
         go_roundg k2
         case measure => have := HJ2.out; have := HK2.out; omega
         case rel => exact ⟨(x6_2), (wrap64 (x7_2 + 1)), (x333000_2), (x333001_2), (x333002_2), (.slice Ao74 x333002_2.length co74), (by first | rfl | (simp; done) | (simp [*]; done)), H', ⟨by have := HJ2.out; have := HK2.out; omega⟩, ⟨by (with_reducible repeat (first | apply Kd.R_alloc | apply Kd.R_drewN | apply Kd.R_drew)); exact Kd.R_mono (Kd.R_far (p := ⟨gb343, 2, none⟩) (Kd.R_far (p := ⟨gb343, 1, none⟩) (Kd.R_far (p := ⟨gb343, 0, none⟩) (Kd.R_types HO_6.out BK343.out (by decide)) (fun _ hk => hk.2) (.int .i64 t336)) (fun _ hk => hk.2) (.int .i64 t337)) (fun _ hk => hk.2) (.slice Ao81 t338.length co81)) (fun _ hk => trivial)⟩, ⟨by (with_reducible repeat (first | apply Kd.R_alloc | apply Kd.R_drewN | apply Kd.R_drew)); exact Kd.R_mono (Kd.R_far (p := ⟨gb343, 2, none⟩) (Kd.R_far (p := ⟨gb343, 1, none⟩) (Kd.R_far (p := ⟨gb343, 0, none⟩) (Kd.R_types HO_333002.out BK343.out (by decide)) (fun _ hk => hk.2) (.int .i64 t336)) (fun _ hk => hk.2) (.int .i64 t337)) (fun _ hk => hk.2) (.slice Ao81 t338.length co81)) (fun _ hk => trivial)⟩, ⟨by refine Hlp.bp (blk_far ?_ NB332_343.out _); refine Hlp.bp (blk_far ?_ NB332_343.out _); refine Hlp.bp (blk_far ?_ NB332_343.out _); exact Hlp.bp BK332.out⟩, ⟨Hlp.bl HB.out⟩⟩
       ·
        rw [if_neg c16] at H
        exact absurd H (by simp)
      ·
       rw [if_neg c15] at H
       have c15b0 : decide (x7_2 < (l1.length : Int)) = false := decide_eq_false c15
       clear c15
       replace H := Option.bind_eq_some_iff.mp H
       obtain ⟨t350, A830, H⟩ := H
       replace H : (if t350 = 0 then ((segment_Records.f k2 x333000_2 x333001_2 x333002_2).bind fun t351 => ((brokerref31_Same.f k2 t351 x6_2).bind fun t354 => (if t354 = true then ((brokerlaw32_awake.f k2).bind fun t355 => (some t355)) else (none)))) else (none)) = some r := H
       have A83 := Aside0.mk A830
       clear A830
       by_cases c84 : t350 = 0
       ·
        rw [if_pos c84] at H
        have c84b0 : (t350 == 0) = true := beq_iff_eq.mpr c84
        have c84b1 : (t350 != 0) = false := bne_eq_false_iff_eq.mpr c84
        clear c84
        replace H := Option.bind_eq_some_iff.mp H
        obtain ⟨t351, A850, H⟩ := H
        replace H : ((brokerref31_Same.f k2 t351 x6_2).bind fun t354 => (if t354 = true then ((brokerlaw32_awake.f k2).bind fun t355 => (some t355)) else (none))) = some r := H
        have A85 := Aside0.mk A850
        clear A850
        replace H := Option.bind_eq_some_iff.mp H
        obtain ⟨t354, A860, H⟩ := H
        replace H : (if t354 = true then ((brokerlaw32_awake.f k2).bind fun t355 => (some t355)) else (none)) = some r := H
        have A86 := Aside0.mk A860
        clear A860
        by_cases c87 : t354 = true
        ·
         subst c87
         have H1 : ((brokerlaw32_awake.f k2).bind fun t355 => (some t355)) = some r := by rw [if_pos rfl] at H; exact H
         clear H
         have H := H1
         clear H1
         replace H := Option.bind_eq_some_iff.mp H
         obtain ⟨t355, A880, H⟩ := H
         replace H : (some t355) = some r := H
         have A88 := Aside0.mk A880
         clear A880
         obtain rfl := Option.some.inj H
         have hcz89_0 : wr.cell? ⟨gb332, 0, none⟩ = some (.int .i64 x333000_2) := (blk_cell BK332.out 0).trans rfl
         have hcz89_1 : wr.cell? ⟨gb332, 1, none⟩ = some (.int .i64 x333001_2) := (blk_cell BK332.out 1).trans rfl
         have hcz89_2 : wr.cell? ⟨gb332, 2, none⟩ = some (u333002) := (blk_cell BK332.out 2).trans rfl
         have hfz89_0 := blk_frozen BK332.out 0
         have hfz89_1 := blk_frozen BK332.out 1
         have hfz89_2 := blk_frozen BK332.out 2
         obtain ⟨Ao90, co90, eo90⟩ := Kd.R_slice HO_333002.out
         subst eo90
         go_wp2_with (first | ((with_reducible refine gate_callee (f := 48) rfl ?_); refine Hlp.gl (some 95) Try.func48 #[.agg #[.int .i64 x333000_2, .int .i64 x333001_2, .slice Ao90 x333002_2.length co90]] ?_; (with_reducible refine (segment_Check.calls k2 x333000_2 x333001_2 _ _ x333002_2 t350 _ ?side1 ?side2 A83.out).mono ?_); (case side1 => exact Hlp.cp (Kd.R_reads' HO_333002.out).2.2); (case side2 => exact (Kd.R_reads' HO_333002.out).2.1); rintro e w91 ⟨rfl, hb⟩; refine ⟨_, rfl, ?_⟩; replace HO_6 := Aside0.mk (Kd.R_below (Hlp.rp HO_6.out) hb); replace HO_333002 := Aside0.mk (Kd.R_below (Hlp.rp HO_333002.out) hb); replace BK332 := Aside0.mk (blk_below (g := gb332) (o := .cells #[.int .i64 x333000_2, .int .i64 x333001_2, .slice Ao90 x333002_2.length co90] 43 (0, 0)) (Hlp.bp BK332.out) hb); replace HB := Aside0.mk (below_step (Hlp.bl HB.out) hb); (try clear hb); (try clear hb2); (try clear hk); (try clear hi); have hcz92_0 : w91.cell? ⟨gb332, 0, none⟩ = some (.int .i64 x333000_2) := (blk_cell BK332.out 0).trans rfl; have hcz92_1 : w91.cell? ⟨gb332, 1, none⟩ = some (.int .i64 x333001_2) := (blk_cell BK332.out 1).trans rfl; have hcz92_2 : w91.cell? ⟨gb332, 2, none⟩ = some (.slice Ao90 x333002_2.length co90) := (blk_cell BK332.out 2).trans rfl; have hfz92_0 := blk_frozen BK332.out 0; have hfz92_1 := blk_frozen BK332.out 1; have hfz92_2 := blk_frozen BK332.out 2) | (go_at_call 55; (with_reducible refine (segment_Records.calls k2 x333000_2 x333001_2 _ _ x333002_2 t351 _ ?side1 ?side2 A85.out).mono ?_); (case side1 => exact Hlp.cp (Kd.R_reads' HO_333002.out).2.2); (case side2 => exact (Kd.R_reads' HO_333002.out).2.1); rintro e w93 ⟨v352, rfl, ho0, hb⟩; replace HO_333002 := Aside0.mk (Kd.R_below (Hlp.rp HO_333002.out) hb); have HO353 := Aside0.mk (Kd.R_lower (Kd.R_new' ho0 (Kd.R_lt (Hlp.rp HO_6.out))) (below_size (Hlp.bl HB.out))); replace HO_6 := Aside0.mk (Kd.R_elder' (Hlp.rp HO_6.out) (Kd.R_base ho0) hb); replace BK332 := Aside0.mk (blk_below (g := gb332) (o := .cells #[.int .i64 x333000_2, .int .i64 x333001_2, .slice Ao90 x333002_2.length co90] 43 (0, 0)) (Hlp.bp BK332.out) hb); replace HB := Aside0.mk (below_step (Hlp.bl HB.out) hb); (try clear hb); (try clear hb2); (try clear hk); (try clear hi); (try clear ho0); obtain ⟨Ao94, co94, eo94⟩ := Kd.R_slice HO353.out; subst eo94; obtain ⟨Ao95, co95, eo95⟩ := Kd.R_slice HO_6.out; subst eo95) | (go_at_call 42; (with_reducible refine (brokerref31_Same.calls k2 _ _ t351 _ _ x6_2 true _ ?side1 ?side2 ?side3 ?side4 A86.out).mono ?_); (case side1 => exact Hlp.cp (Kd.R_reads' HO353.out).2.2); (case side2 => exact (Kd.R_reads' HO353.out).2.1); (case side3 => exact Hlp.cp (Kd.R_reads' HO_6.out).2.2); (case side4 => exact (Kd.R_reads' HO_6.out).2.1); rintro e w' ⟨rfl, ⟨nd, rfl⟩⟩) | (go_at_call 47; (with_reducible refine (brokerlaw32_awake.calls k2  t355 _ A88.out).mono ?_); rintro e w96 ⟨rfl, hb⟩; replace HO_6 := Aside0.mk (Kd.R_below (Hlp.rp HO_6.out) hb); replace HO_333002 := Aside0.mk (Kd.R_below (Hlp.rp HO_333002.out) hb); replace HO353 := Aside0.mk (Kd.R_below (Hlp.rp HO353.out) hb); replace BK332 := Aside0.mk (blk_below (g := gb332) (o := .cells #[.int .i64 x333000_2, .int .i64 x333001_2, .slice Ao90 x333002_2.length co90] 43 (0, 0)) (Hlp.bp BK332.out) hb); replace HB := Aside0.mk (below_step (Hlp.bl HB.out) hb); (try clear hb); (try clear hb2); (try clear hk); (try clear hi)))
         go_ret
         exact ⟨by first | rfl | (simp [errW_none, errW_some] <;> rfl) | (simp [*, errW_none, errW_some] <;> rfl), Hlp.bl HB.out⟩
        ·
         replace c87 := Bool.eq_false_iff.mpr c87
         subst c87
         have H1 : (none) = some r := by rw [if_neg (show ¬ (false = true) by decide)] at H; exact H
         clear H
         have H := H1
         clear H1
         exact absurd H (by simp)
       ·
        rw [if_neg c84] at H
        have c84b0 : (t350 == 0) = false := beq_eq_false_iff_ne.mpr c84
        have c84b1 : (t350 != 0) = true := bne_iff_ne.mpr c84
        exact absurd H (by simp)

end Go.Proofs.Ytkkelbakadbbhaa.J
