/- Lean functions that compute what the Go functions named below compute; each theorem '.calls': if its Lean function has an answer, the Go function returns it. -/
import Derived.Test.YtkkelbakadbbhaaYx0
import Derived.Test.YtkkelbakadbbhaaH
import Derived.Test.YtkkelbakadbbhaaYbrokerlaw32awake
import Derived.Test.YtkkelbakadbbhaaYref313
import Derived.Test.YtkkelbakadbbhaaYsegment0
namespace Go.Proofs.Ytkkelbakadbbhaa.J
open Go.RowKit Go.Proofs.YtkkelbakadbbhaaW.PrintWords Go.Proofs.YtkkelbakadbbhaaW.PrintLast Go.Proofs.YtkkelbakadbbhaaW.PrintMore
attribute [local go_sem] max2_int min2_int max_two min_two max_three min_three max_four min_four   -- for this text's walks alone
set_option linter.unusedVariables false
set_option linter.unusedSimpArgs false

/-! ### brokerlaw32_SegmentFull: function 20 -/
mutual
def brokerlaw32_SegmentFull.j0 : Nat → Int → Int → Bool → Option (Bool)
 | 0, _, _, _ => none
 | k + 1, x0, x1, x17 => if x17 = true then ((brokerlaw32_awake.f k).bind fun t1063 => (some t1063)) else (brokerlaw32_SegmentFull.l0 k x0 x1 (⟨#[]⟩ : ByteArray))
def brokerlaw32_SegmentFull.l0 : Nat → Int → Int → ByteArray → Option (Bool)
 | 0, _, _, _ => none
 | k + 1, x0, x1, x5 => if (x5.size : Int) < (wrap64 (4096 - (wrap64 (x1)))) then (if x5.size + 16 ≤ 9223372036854775807 then (brokerlaw32_SegmentFull.l0 k x0 x1 (x5 ++ (⟨#[48, 49, 50, 51, 52, 53, 54, 55, 56, 57, 97, 98, 99, 100, 101, 102]⟩ : ByteArray))) else (none)) else (if 0 ≤ (wrap64 (4096 - (wrap64 (x1)))) then (if (wrap64 (4096 - (wrap64 (x1)))) ≤ (x5.size : Int) then ((segment_New.f x0).bind fun bt1064 => (brokerlaw32_SegmentFull.l1 k x0 (x5.extract 0 ((wrap64 (4096 - (wrap64 (x1)))) : Int).toNat) 0 bt1064.1 bt1064.2.1 bt1064.2.2)) else (none)) else (none))
def brokerlaw32_SegmentFull.l1 : Nat → Int → ByteArray → Int → Int → Int → List Int → Option (Bool)
 | 0, _, _, _, _, _, _ => none
 | k + 1, x0, x5, x7, x1070000, x1070001, x1070002 => if x7 < 18 then ((brokerref31_Size.f k (wrap64 (x0 + x7)) 1 (⟨#[107]⟩ : ByteArray) x5).bind fun t1070 => ((segment_Append.f k x1070000 x1070001 x1070002 1 (⟨#[107]⟩ : ByteArray) x5).bind fun bt1071 => (if (wrap64 ((x1070002.length : Int) + t1070)) > 65536 then (if bt1071.2.2.2.2 = 6 then (if bt1071.2.2.2.1 = 0 then ((brokerref32_Same.f bt1071.1 bt1071.2.1 bt1071.2.2.1 0 0 ([] : List Int)).bind fun t1079 => (if t1079 = true then ((brokerlaw32_awake.f k).bind fun t1080 => (some t1080)) else (none))) else (none)) else (none)) else (if bt1071.2.2.2.2 = 0 then (if bt1071.2.2.2.1 = (wrap64 (x0 + x7)) then (if (bt1071.2.2.1.length : Int) = (wrap64 ((x1070002.length : Int) + t1070)) then (brokerlaw32_SegmentFull.l1 k x0 x5 (wrap64 (x7 + 1)) bt1071.1 bt1071.2.1 bt1071.2.2.1) else (none)) else (none)) else (none))))) else (none)
end
def brokerlaw32_SegmentFull.f (k : Nat) (a0 : Int) (a1 : Int) : Option (Bool) := if a0 < 0 then (brokerlaw32_SegmentFull.j0 k a0 a1 true) else (brokerlaw32_SegmentFull.j0 k a0 a1 (decide (a0 > 100)))
theorem brokerlaw32_SegmentFull.mono_l : ∀ k, (∀ y0 y1 y2, LeO (brokerlaw32_SegmentFull.j0 k y0 y1 y2) (brokerlaw32_SegmentFull.j0 (k + 1) y0 y1 y2)) ∧ (∀ y0 y1 y2, LeO (brokerlaw32_SegmentFull.l0 k y0 y1 y2) (brokerlaw32_SegmentFull.l0 (k + 1) y0 y1 y2)) ∧ (∀ y0 y1 y2 y3 y4 y5, LeO (brokerlaw32_SegmentFull.l1 k y0 y1 y2 y3 y4 y5) (brokerlaw32_SegmentFull.l1 (k + 1) y0 y1 y2 y3 y4 y5))
 | 0 => ⟨fun _ _ _ r h => by simp [brokerlaw32_SegmentFull.j0] at h, fun _ _ _ r h => by simp [brokerlaw32_SegmentFull.l0] at h, fun _ _ _ _ _ _ r h => by simp [brokerlaw32_SegmentFull.l1] at h⟩
 | k + 1 => by
  obtain ⟨ih0, ih1, ih2⟩ := brokerlaw32_SegmentFull.mono_l k
  refine ⟨?_, ?_, ?_⟩
  ·
   intro y0 y1 y2
   unfold brokerlaw32_SegmentFull.j0
   repeat' first
   | (with_reducible exact ih0 _ _ _)
   | (with_reducible exact ih1 _ _ _)
   | (with_reducible exact ih2 _ _ _ _ _ _)
   | (with_reducible exact brokerlaw32_awake.mono _)
   | (with_reducible exact brokerref31_Size.mono _ _ _ _ _)
   | (with_reducible exact segment_Append.mono _ _ _ _ _ _ _)
   | (with_reducible exact LeO.refl _)
   | (with_reducible exact LeO.none _)
   | (with_reducible refine LeO.ite ?_ ?_)
   | (with_reducible refine LeO.bind ?_ (fun _ => ?_))
   | exact ih0 _ _ _
   | exact ih1 _ _ _
   | exact ih2 _ _ _ _ _ _
   | exact brokerlaw32_awake.mono _
   | exact brokerref31_Size.mono _ _ _ _ _
   | exact segment_Append.mono _ _ _ _ _ _ _
   | exact LeO.none _
   | refine LeO.ite ?_ ?_
   | refine LeO.bind ?_ (fun _ => ?_)
  ·
   intro y0 y1 y2
   unfold brokerlaw32_SegmentFull.l0
   repeat' first
   | (with_reducible exact ih0 _ _ _)
   | (with_reducible exact ih1 _ _ _)
   | (with_reducible exact ih2 _ _ _ _ _ _)
   | (with_reducible exact brokerlaw32_awake.mono _)
   | (with_reducible exact brokerref31_Size.mono _ _ _ _ _)
   | (with_reducible exact segment_Append.mono _ _ _ _ _ _ _)
   | (with_reducible exact LeO.refl _)
   | (with_reducible exact LeO.none _)
   | (with_reducible refine LeO.ite ?_ ?_)
   | (with_reducible refine LeO.bind ?_ (fun _ => ?_))
   | exact ih0 _ _ _
   | exact ih1 _ _ _
   | exact ih2 _ _ _ _ _ _
   | exact brokerlaw32_awake.mono _
   | exact brokerref31_Size.mono _ _ _ _ _
   | exact segment_Append.mono _ _ _ _ _ _ _
   | exact LeO.none _
   | refine LeO.ite ?_ ?_
   | refine LeO.bind ?_ (fun _ => ?_)
  ·
   intro y0 y1 y2 y3 y4 y5
   unfold brokerlaw32_SegmentFull.l1
   repeat' first
   | (with_reducible exact ih0 _ _ _)
   | (with_reducible exact ih1 _ _ _)
   | (with_reducible exact ih2 _ _ _ _ _ _)
   | (with_reducible exact brokerlaw32_awake.mono _)
   | (with_reducible exact brokerref31_Size.mono _ _ _ _ _)
   | (with_reducible exact segment_Append.mono _ _ _ _ _ _ _)
   | (with_reducible exact LeO.refl _)
   | (with_reducible exact LeO.none _)
   | (with_reducible refine LeO.ite ?_ ?_)
   | (with_reducible refine LeO.bind ?_ (fun _ => ?_))
   | exact ih0 _ _ _
   | exact ih1 _ _ _
   | exact ih2 _ _ _ _ _ _
   | exact brokerlaw32_awake.mono _
   | exact brokerref31_Size.mono _ _ _ _ _
   | exact segment_Append.mono _ _ _ _ _ _ _
   | exact LeO.none _
   | refine LeO.ite ?_ ?_
   | refine LeO.bind ?_ (fun _ => ?_)
theorem brokerlaw32_SegmentFull.mono : ∀ a0 a1 k, LeO (brokerlaw32_SegmentFull.f k a0 a1) (brokerlaw32_SegmentFull.f (k + 1) a0 a1) := by
 intro a0 a1 k
 obtain ⟨ih0, ih1, ih2⟩ := brokerlaw32_SegmentFull.mono_l k
 unfold brokerlaw32_SegmentFull.f
 repeat' first
  | (with_reducible exact ih0 _ _ _)
  | (with_reducible exact ih1 _ _ _)
  | (with_reducible exact ih2 _ _ _ _ _ _)
  | (with_reducible exact brokerlaw32_awake.mono _)
  | (with_reducible exact brokerref31_Size.mono _ _ _ _ _)
  | (with_reducible exact segment_Append.mono _ _ _ _ _ _ _)
  | (with_reducible exact LeO.refl _)
  | (with_reducible exact LeO.none _)
  | (with_reducible refine LeO.ite ?_ ?_)
  | (with_reducible refine LeO.bind ?_ (fun _ => ?_))
  | exact ih0 _ _ _
  | exact ih1 _ _ _
  | exact ih2 _ _ _ _ _ _
  | exact brokerlaw32_awake.mono _
  | exact brokerref31_Size.mono _ _ _ _ _
  | exact segment_Append.mono _ _ _ _ _ _ _
  | exact LeO.none _
  | refine LeO.ite ?_ ?_
  | refine LeO.bind ?_ (fun _ => ?_)
set_option maxHeartbeats 8000000 in
set_option maxRecDepth 100000 in
theorem brokerlaw32_SegmentFull.calls (k : Nat) (a0 : Int) (a1 : Int) (r : Bool) (w : World) (h : brokerlaw32_SegmentFull.f k a0 a1 = some r) :
 Calls Try.prog 20 #[.int .i64 a0, .int .u8 a1] w fun e w' => e = .returned (.bool r) ∧ Below w.heap.size w w' := by
 have hu43 := Try.underlying43
 have hu23 := Try.underlying23
 have HB := Aside0.mk (Below.refl w.heap.size w)
 have H : (if a0 < 0 then (brokerlaw32_SegmentFull.j0 k a0 a1 true) else (brokerlaw32_SegmentFull.j0 k a0 a1 (decide (a0 > 100)))) = some r := h
 clear h
 have HC3 := Aside0.mk H
 clear H
 go_enter Try.func20, Try.ntmps20
 go_upto_region 1 with (fail)
 go_cut [17] (fun v17 wc => ∃ (kq : Nat) (x17_2 : Bool), v17 = .bool x17_2 ∧ Aside0 (brokerlaw32_SegmentFull.j0 kq a0 a1 x17_2 = some r) ∧ Aside0 (kq ≤ k) ∧ Aside0 (Below w.heap.size w wc))
 case first =>
  have H := HC3.out
  clear HC3
  by_cases c4 : a0 < 0
  ·
   rw [if_pos c4] at H
   have c4b0 : decide (a0 < 0) = true := decide_eq_true c4
   clear c4
   (first | rw [c4b0] | (simp only [i64_w, i32_w]; rw [c4b0]) | skip)
   have H' := Aside0.mk H
   clear H
   go_wp2
   go_meet
   case rel => exact ⟨_, (true), (by first | rfl | (simp; done) | (simp [*]; done)), H', ⟨by first | omega | exact Nat.le_refl _⟩, ⟨Hlp.bl HB.out⟩⟩
  ·
   rw [if_neg c4] at H
   have c4b0 : decide (a0 < 0) = false := decide_eq_false c4
   clear c4
   (first | rw [c4b0] | (simp only [i64_w, i32_w]; rw [c4b0]) | skip)
   have H' := Aside0.mk H
   clear H
   go_wp2
   go_meet
   case rel => exact ⟨_, (decide (a0 > 100)), (by first | rfl | (simp; done) | (simp [*]; done)), H', ⟨by first | omega | exact Nat.le_refl _⟩, ⟨Hlp.bl HB.out⟩⟩
 case rest =>
  clear HC3
  try clear c2
  try clear p2
  try clear c4
  try clear c4b0
  obtain ⟨kq, x17_2, rfl, HA, HJ2, HB⟩ := hcut
  cases kq with
  | zero => exact absurd HA.out (by simp [brokerlaw32_SegmentFull.j0])
  | succ kj2 =>
   have H := HA.out
   clear HA
   simp only [brokerlaw32_SegmentFull.j0] at H
   by_cases c5 : x17_2 = true
   ·
    subst c5
    have H1 : ((brokerlaw32_awake.f kj2).bind fun t1063 => (some t1063)) = some r := by rw [if_pos rfl] at H; exact H
    clear H
    have H := H1
    clear H1
    replace H := Option.bind_eq_some_iff.mp H
    obtain ⟨t1063, A60, H⟩ := H
    replace H : (some t1063) = some r := H
    have A6 := Aside0.mk A60
    clear A60
    obtain rfl := Option.some.inj H
    go_wp2_with (first | ((with_reducible refine gate_callee (f := 47) rfl ?_); refine Hlp.gl (some 18) Try.func47 #[] ?_; (with_reducible refine (brokerlaw32_awake.calls kj2  t1063 _ A6.out).mono ?_); rintro e w7 ⟨rfl, hb⟩; refine ⟨_, rfl, ?_⟩; replace HB := Aside0.mk (below_step (Hlp.bl HB.out) hb); (try clear hb); (try clear hb2); (try clear hk); (try clear hi)))
    go_ret
    exact ⟨by first | rfl | (simp [errW_none, errW_some] <;> rfl) | (simp [*, errW_none, errW_some] <;> rfl), Hlp.bl HB.out⟩
   ·
    replace c5 := Bool.eq_false_iff.mpr c5
    subst c5
    have H1 : (brokerlaw32_SegmentFull.l0 kj2 a0 a1 (⟨#[]⟩ : ByteArray)) = some r := by rw [if_neg (show ¬ (false = true) by decide)] at H; exact H
    clear H
    have H := H1
    clear H1
    have H' := Aside0.mk H
    clear H
    go_wp2
    go_loopg [5] kj2 (fun kq v5 w' => ∃ (x5_2 : ByteArray), v5 = .string x5_2 ∧ Aside0 (brokerlaw32_SegmentFull.l0 kq a0 a1 x5_2 = some r) ∧ Aside0 (kq ≤ kj2) ∧ Aside0 (Below w.heap.size w w'))
    case atStart => exact ⟨((⟨#[]⟩ : ByteArray)), (by first | rfl | (simp; done) | (simp [*]; done)), H', ⟨Nat.le_refl _⟩, ⟨Hlp.bl HB.out⟩⟩
    case round =>
     clear H'
     try clear c2
     try clear p2
     try clear c4
     try clear c4b0
     try clear c5
     try clear p2
     obtain ⟨x5_2, rfl, HA, HK2, HB⟩ := hrel
     cases gk with
     | zero => exact absurd HA.out (by simp [brokerlaw32_SegmentFull.l0])
     | succ k2 =>
      have H := HA.out
      clear HA
      simp only [brokerlaw32_SegmentFull.l0] at H
      by_cases c8 : (x5_2.size : Int) < (wrap64 (4096 - (wrap64 (a1))))
      ·
       rw [if_pos c8] at H
       have c8b0 : decide ((x5_2.size : Int) < (wrap64 (4096 - (wrap64 (a1))))) = true := decide_eq_true c8
       clear c8
       by_cases c9 : x5_2.size + 16 ≤ 9223372036854775807
       ·
        rw [if_pos c9] at H
        have c9b0 := eq_true c9
        have c9b1 : decide (x5_2.size + 16 ≤ 9223372036854775807) = true := decide_eq_true c9
        try have c9b2 : (9223372036854775807 < x5_2.size + 16) = False := eq_false (Nat.not_lt.2 c9)
        have H' := Aside0.mk H
        clear H
        go_wp2
        go_roundg k2
        case measure => have := HJ2.out; have := HK2.out; omega
        case rel => exact ⟨(x5_2 ++ (⟨#[48, 49, 50, 51, 52, 53, 54, 55, 56, 57, 97, 98, 99, 100, 101, 102]⟩ : ByteArray)), (by first | rfl | (simp; done) | (simp [*]; done)), H', ⟨by have := HJ2.out; have := HK2.out; omega⟩, ⟨Hlp.bl HB.out⟩⟩
       ·
        rw [if_neg c9] at H
        exact absurd H (by simp)
      ·
       rw [if_neg c8] at H
       have c8b0 : decide ((x5_2.size : Int) < (wrap64 (4096 - (wrap64 (a1))))) = false := decide_eq_false c8
       clear c8
       obtain ⟨ji10, hji10⟩ : ∃ j_ : Int, (wrap64 (4096 - (wrap64 (a1)))) = j_ := ⟨_, rfl⟩
       replace H : (if 0 ≤ (ji10) then (if (ji10) ≤ (x5_2.size : Int) then ((segment_New.f a0).bind fun bt1064 => (brokerlaw32_SegmentFull.l1 k2 a0 (x5_2.extract 0 ((ji10) : Int).toNat) 0 bt1064.1 bt1064.2.1 bt1064.2.2)) else (none)) else (none)) = some r := by first | (rw [hji10] at H; exact H) | (simp only [hji10] at H ⊢; exact H)
       (try rw [hji10] at c8b0)
       have hji10w : (IntKind.i64.wrap (4096 - (wrap64 (a1)))) = ji10 := (i64_w _).trans hji10
       by_cases c11 : 0 ≤ (ji10)
       ·
        rw [if_pos c11] at H
        have c11b0 := eq_true c11
        have c11b1 : decide (0 ≤ (ji10)) = true := decide_eq_true c11
        clear c11
        by_cases c12 : (ji10) ≤ (x5_2.size : Int)
        ·
         rw [if_pos c12] at H
         have c12b0 := eq_true c12
         have c12b1 : decide ((ji10) ≤ (x5_2.size : Int)) = true := decide_eq_true c12
         clear c12
         replace H := Option.bind_eq_some_iff.mp H
         obtain ⟨⟨t1064, t1065, t1066⟩, A130, H⟩ := H
         replace H : (brokerlaw32_SegmentFull.l1 k2 a0 (x5_2.extract 0 ((ji10) : Int).toNat) 0 t1064 t1065 t1066) = some r := H
         have A13 := Aside0.mk A130
         clear A130
         have H' := Aside0.mk H
         clear H
         go_wp2_with (first | ((with_reducible refine gate_callee (f := 51) rfl ?_); refine Hlp.gl (some 33) Try.func51 #[.int .i64 a0] ?_; (with_reducible refine (segment_New.calls a0 t1064 t1065 t1066 _ A13.out).mono ?_); rintro e w14 ⟨v1067, rfl, ho0, hb⟩; refine ⟨_, rfl, ?_⟩; have HO1068 := Aside0.mk (Kd.R_lower ho0 (below_size (Hlp.bl HB.out))); replace HB := Aside0.mk (below_step (Hlp.bl HB.out) hb); (try clear hb); (try clear hb2); (try clear hk); (try clear hi); (try clear ho0)) | ((with_reducible refine gate_dst (N := 6) rfl ?_); (try (refine gate_guard (by rfl) ?_; dsimp only)); refine Hlp.bx (N := 6) (cs := #[.int .i64 0, .int .i64 0, .slice none 0 0]) (t := 43) ?_; intro gb1069 hg w15 hbox hb; replace HO1068 := Aside0.mk (Kd.R_below (Hlp.rp HO1068.out) hb); have BK1069 := Aside0.mk (hbox); have GW1069 := Aside0.mk ((by rw [hg]; exact (below_size (Hlp.bl HB.out)) : w.heap.size ≤ gb1069)); have GE1069 := Aside0.mk ((by rw [hg]; exact (below_size (Hlp.bl HB.out)) : w.heap.size ≤ gb1069)); replace HB := Aside0.mk (below_step (Hlp.bl HB.out) hb); clear hb hbox hg; have hcz16_0 : w15.cell? ⟨gb1069, 0, none⟩ = some (.int .i64 0) := (blk_cell BK1069.out 0).trans rfl; have hcz16_1 : w15.cell? ⟨gb1069, 1, none⟩ = some (.int .i64 0) := (blk_cell BK1069.out 1).trans rfl; have hcz16_2 : w15.cell? ⟨gb1069, 2, none⟩ = some (.slice none 0 0) := (blk_cell BK1069.out 2).trans rfl; have hfz16_0 := blk_frozen BK1069.out 0; have hfz16_1 := blk_frozen BK1069.out 1; have hfz16_2 := blk_frozen BK1069.out 2; obtain ⟨Ao17, co17, eo17⟩ := Kd.R_slice HO1068.out; subst eo17))
         go_loopg [7] k2 (fun kq v7 w' => ∃ (x7_3 : Int) (x1070000_3 : Int) (x1070001_3 : Int) (x1070002_3 : List Int) (u1070002 : Value), v7 = .int .i64 x7_3 ∧ Aside0 (brokerlaw32_SegmentFull.l1 kq a0 (x5_2.extract 0 ((ji10) : Int).toNat) x7_3 x1070000_3 x1070001_3 x1070002_3 = some r) ∧ Aside0 (kq ≤ k2) ∧ Aside0 (Kd.R (Kd.int .u8) 5 w' w.heap.size (fun _ => True) u1070002 x1070002_3) ∧ Aside0 (w'.heap[gb1069]? = some (.cells #[.int .i64 x1070000_3, .int .i64 x1070001_3, u1070002] 43 (0, 0))) ∧ Aside0 (Below w.heap.size w w'))
         case atStart => exact ⟨(0), (t1064), (t1065), (t1066), (.slice Ao17 t1066.length co17), (by first | rfl | (simp; done) | (simp [*]; done)), H', ⟨Nat.le_refl _⟩, ⟨by (with_reducible repeat (first | apply Kd.R_alloc | apply Kd.R_drewN | apply Kd.R_drew)); exact Kd.R_mono (Kd.R_far (p := ⟨gb1069, 2, none⟩) (Kd.R_far (p := ⟨gb1069, 1, none⟩) (Kd.R_far (p := ⟨gb1069, 0, none⟩) (Kd.R_types HO1068.out BK1069.out (by decide)) (fun _ hk => hk.2) (.int .i64 t1064)) (fun _ hk => hk.2) (.int .i64 t1065)) (fun _ hk => hk.2) (.slice Ao17 t1066.length co17)) (fun _ hk => trivial)⟩, ⟨by refine Hlp.bp (blk_put (cs := #[.int .i64 t1064, .int .i64 t1065, .slice none 0 0]) ?_ 2 _ rfl); refine Hlp.bp (blk_put (cs := #[.int .i64 t1064, .int .i64 0, .slice none 0 0]) ?_ 1 _ rfl); refine Hlp.bp (blk_put (cs := #[.int .i64 0, .int .i64 0, .slice none 0 0]) ?_ 0 _ rfl); exact Hlp.bp BK1069.out⟩, ⟨Hlp.bl HB.out⟩⟩
         case round =>
          clear H'
          try clear c1
          try clear c2
          try clear p2
          try clear c4
          try clear c4b0
          try clear c5
          try clear p6
          try clear c8
          try clear c8b0
          try clear c9
          try clear c9b0
          try clear c9b1
          try clear c9b2
          try clear c11
          try clear c11b0
          try clear c11b1
          try clear c12
          try clear c12b0
          try clear c12b1
          try clear hcz16_0
          try clear hcz16_1
          try clear hcz16_2
          try clear hfz16_0
          try clear hfz16_1
          try clear hfz16_2
          try clear p2
          obtain ⟨x7_3, x1070000_3, x1070001_3, x1070002_3, u1070002, rfl, HA, HK3, HO_1070002, BK1069, HB⟩ := hrel
          cases gk with
          | zero => exact absurd HA.out (by simp [brokerlaw32_SegmentFull.l1])
          | succ k3 =>
           have H := HA.out
           clear HA
           simp only [brokerlaw32_SegmentFull.l1] at H
           by_cases c18 : x7_3 < 18
           ·
            rw [if_pos c18] at H
            have c18b0 : decide (x7_3 < 18) = true := decide_eq_true c18
            clear c18
            replace H := Option.bind_eq_some_iff.mp H
            obtain ⟨t1070, A190, H⟩ := H
            replace H : ((segment_Append.f k3 x1070000_3 x1070001_3 x1070002_3 1 (⟨#[107]⟩ : ByteArray) (x5_2.extract 0 ((ji10) : Int).toNat)).bind fun bt1071 => (if (wrap64 ((x1070002_3.length : Int) + t1070)) > 65536 then (if bt1071.2.2.2.2 = 6 then (if bt1071.2.2.2.1 = 0 then ((brokerref32_Same.f bt1071.1 bt1071.2.1 bt1071.2.2.1 0 0 ([] : List Int)).bind fun t1079 => (if t1079 = true then ((brokerlaw32_awake.f k3).bind fun t1080 => (some t1080)) else (none))) else (none)) else (none)) else (if bt1071.2.2.2.2 = 0 then (if bt1071.2.2.2.1 = (wrap64 (a0 + x7_3)) then (if (bt1071.2.2.1.length : Int) = (wrap64 ((x1070002_3.length : Int) + t1070)) then (brokerlaw32_SegmentFull.l1 k3 a0 (x5_2.extract 0 ((ji10) : Int).toNat) (wrap64 (x7_3 + 1)) bt1071.1 bt1071.2.1 bt1071.2.2.1) else (none)) else (none)) else (none)))) = some r := H
            have A19 := Aside0.mk A190
            clear A190
            replace H := Option.bind_eq_some_iff.mp H
            obtain ⟨⟨t1071, t1072, t1073, t1076, t1077⟩, A200, H⟩ := H
            replace H : (if (wrap64 ((x1070002_3.length : Int) + t1070)) > 65536 then (if t1077 = 6 then (if t1076 = 0 then ((brokerref32_Same.f t1071 t1072 t1073 0 0 ([] : List Int)).bind fun t1079 => (if t1079 = true then ((brokerlaw32_awake.f k3).bind fun t1080 => (some t1080)) else (none))) else (none)) else (none)) else (if t1077 = 0 then (if t1076 = (wrap64 (a0 + x7_3)) then (if (t1073.length : Int) = (wrap64 ((x1070002_3.length : Int) + t1070)) then (brokerlaw32_SegmentFull.l1 k3 a0 (x5_2.extract 0 ((ji10) : Int).toNat) (wrap64 (x7_3 + 1)) t1071 t1072 t1073) else (none)) else (none)) else (none))) = some r := H
            have A20 := Aside0.mk A200
            clear A200
            by_cases c21 : (wrap64 ((x1070002_3.length : Int) + t1070)) > 65536
            ·
             rw [if_pos c21] at H
             have c21b0 : decide (65536 < (wrap64 ((x1070002_3.length : Int) + t1070))) = true := decide_eq_true c21
             clear c21
             by_cases c22 : t1077 = 6
             ·
              rw [if_pos c22] at H
              have c22b0 : (t1077 == 6) = true := beq_iff_eq.mpr c22
              have c22b1 : (t1077 != 6) = false := bne_eq_false_iff_eq.mpr c22
              clear c22
              by_cases c23 : t1076 = 0
              ·
               rw [if_pos c23] at H
               have c23b0 : (t1076 == 0) = true := beq_iff_eq.mpr c23
               have c23b1 : (t1076 != 0) = false := bne_eq_false_iff_eq.mpr c23
               clear c23
               replace H := Option.bind_eq_some_iff.mp H
               obtain ⟨t1079, A240, H⟩ := H
               replace H : (if t1079 = true then ((brokerlaw32_awake.f k3).bind fun t1080 => (some t1080)) else (none)) = some r := H
               have A24 := Aside0.mk A240
               clear A240
               by_cases c25 : t1079 = true
               ·
                subst c25
                have H1 : ((brokerlaw32_awake.f k3).bind fun t1080 => (some t1080)) = some r := by rw [if_pos rfl] at H; exact H
                clear H
                have H := H1
                clear H1
                replace H := Option.bind_eq_some_iff.mp H
                obtain ⟨t1080, A260, H⟩ := H
                replace H : (some t1080) = some r := H
                have A26 := Aside0.mk A260
                clear A260
                obtain rfl := Option.some.inj H
                go_wp2_with (first | ((with_reducible refine gate_callee (f := 63) rfl ?_); refine goesL_ (some 43) rfl rfl Try.func63 (by kernel_rfl) rfl #[.agg #[.int .i64 (wrap64 (a0 + x7_3)), .int .i64 1, .string (⟨#[107]⟩ : ByteArray), .string (x5_2.extract 0 ((ji10) : Int).toNat)]] rfl (by (try simp only [List.map_toArray, List.map_cons, List.map_nil]); first | done | (simp only [hji10]; rfl) | rfl | (simp only [List.length_drop, List.length_take]; rfl)) ?_; (with_reducible refine (brokerref31_Size.calls k3 (wrap64 (a0 + x7_3)) 1 (⟨#[107]⟩ : ByteArray) (x5_2.extract 0 ((ji10) : Int).toNat) t1070 _ A19.out).mono ?_); rintro e w27 ⟨rfl, hb⟩; refine ⟨_, rfl, ?_⟩; replace HO_1070002 := Aside0.mk (Kd.R_below (Hlp.rp HO_1070002.out) hb); replace BK1069 := Aside0.mk (blk_below (g := gb1069) (o := .cells #[.int .i64 x1070000_3, .int .i64 x1070001_3, u1070002] 43 (0, 0)) (Hlp.bp BK1069.out) hb); replace HB := Aside0.mk (below_step (Hlp.bl HB.out) hb); (try clear hb); (try clear hb2); (try clear hk); (try clear hi); have hcz28_0 : w27.cell? ⟨gb1069, 0, none⟩ = some (.int .i64 x1070000_3) := (blk_cell BK1069.out 0).trans rfl; have hcz28_1 : w27.cell? ⟨gb1069, 1, none⟩ = some (.int .i64 x1070001_3) := (blk_cell BK1069.out 1).trans rfl; have hcz28_2 : w27.cell? ⟨gb1069, 2, none⟩ = some (u1070002) := (blk_cell BK1069.out 2).trans rfl; have hfz28_0 := blk_frozen BK1069.out 0; have hfz28_1 := blk_frozen BK1069.out 1; have hfz28_2 := blk_frozen BK1069.out 2; obtain ⟨Ao29, co29, eo29⟩ := Kd.R_slice HO_1070002.out; subst eo29) | ((with_reducible refine gate_callee (f := 53) rfl ?_); refine goesL_ (some 47) rfl rfl Try.func53 (by kernel_rfl) rfl #[.agg #[.int .i64 x1070000_3, .int .i64 x1070001_3, .slice Ao29 x1070002_3.length co29], .int .i64 1, .string (⟨#[107]⟩ : ByteArray), .string (x5_2.extract 0 ((ji10) : Int).toNat)] rfl (by (try simp only [List.map_toArray, List.map_cons, List.map_nil]); first | done | (simp only [hji10]; rfl) | rfl | (simp only [List.length_drop, List.length_take]; rfl)) ?_; (with_reducible refine (segment_Append.calls k3 x1070000_3 x1070001_3 _ _ x1070002_3 1 (⟨#[107]⟩ : ByteArray) (x5_2.extract 0 ((ji10) : Int).toNat) t1071 t1072 t1073 t1076 t1077 _ ?side1 ?side2 A20.out).mono ?_); (case side1 => exact Hlp.cp (Kd.R_reads' HO_1070002.out).2.2); (case side2 => exact (Kd.R_reads' HO_1070002.out).2.1); rintro e w30 ⟨v1074, rfl, ho0, hb⟩; refine ⟨_, rfl, ?_⟩; have HO1075 := Aside0.mk (Kd.R_lower (Kd.R_new' ho0 (Kd.R_lt (Hlp.rp HO_1070002.out))) (below_size (Hlp.bl HB.out))); replace HO_1070002 := Aside0.mk (Kd.R_elder' (Hlp.rp HO_1070002.out) (Kd.R_base ho0) hb); replace BK1069 := Aside0.mk (blk_below (g := gb1069) (o := .cells #[.int .i64 x1070000_3, .int .i64 x1070001_3, .slice Ao29 x1070002_3.length co29] 43 (0, 0)) (Hlp.bp BK1069.out) hb); replace HB := Aside0.mk (below_step (Hlp.bl HB.out) hb); (try clear hb); (try clear hb2); (try clear hk); (try clear hi); (try clear ho0)) | ((with_reducible refine gate_dst (N := 9) rfl ?_); (try (refine gate_guard (by rfl) ?_; dsimp only)); refine Hlp.bx (N := 9) (cs := #[.int .i64 0, .int .i64 0, .slice none 0 0]) (t := 43) ?_; intro gb1078 hg w31 hbox hb; replace HO_1070002 := Aside0.mk (Kd.R_below (Hlp.rp HO_1070002.out) hb); replace HO1075 := Aside0.mk (Kd.R_below (Hlp.rp HO1075.out) hb); have BK1078 := Aside0.mk (hbox); have GW1078 := Aside0.mk ((by rw [hg]; exact (below_size (Hlp.bl HB.out)) : w.heap.size ≤ gb1078)); have GE1078 := Aside0.mk ((by rw [hg]; exact (below_size (Hlp.bl HB.out)) : w.heap.size ≤ gb1078)); replace HB := Aside0.mk (below_step (Hlp.bl HB.out) hb); have NB1069_1078 := Aside0.mk ((by rw [hg]; exact Nat.ne_of_lt (blk_lt (g := gb1069) (o := .cells #[.int .i64 x1070000_3, .int .i64 x1070001_3, .slice Ao29 x1070002_3.length co29] 43 (0, 0)) (Hlp.bp BK1069.out)) : gb1069 ≠ gb1078)); have NB1078_1069 := Aside0.mk ((by rw [hg]; exact Nat.ne_of_gt (blk_lt (g := gb1069) (o := .cells #[.int .i64 x1070000_3, .int .i64 x1070001_3, .slice Ao29 x1070002_3.length co29] 43 (0, 0)) (Hlp.bp BK1069.out)) : gb1078 ≠ gb1069)); replace BK1069 := Aside0.mk (blk_below (g := gb1069) (o := .cells #[.int .i64 x1070000_3, .int .i64 x1070001_3, .slice Ao29 x1070002_3.length co29] 43 (0, 0)) (Hlp.bp BK1069.out) hb); clear hb hbox hg; have hnb32 := NB1078_1069.out; have hnc32 := NB1069_1078.out; have hcz33_0 : w31.cell? ⟨gb1078, 0, none⟩ = some (.int .i64 0) := (blk_cell BK1078.out 0).trans rfl; have hcz33_1 : w31.cell? ⟨gb1078, 1, none⟩ = some (.int .i64 0) := (blk_cell BK1078.out 1).trans rfl; have hcz33_2 : w31.cell? ⟨gb1078, 2, none⟩ = some (.slice none 0 0) := (blk_cell BK1078.out 2).trans rfl; have hfz33_0 := blk_frozen BK1078.out 0; have hfz33_1 := blk_frozen BK1078.out 1; have hfz33_2 := blk_frozen BK1078.out 2; obtain ⟨Ao34, co34, eo34⟩ := Kd.R_slice HO1075.out; subst eo34; have hcz35_0 : w31.cell? ⟨gb1069, 0, none⟩ = some (.int .i64 x1070000_3) := (blk_cell BK1069.out 0).trans rfl; have hcz35_1 : w31.cell? ⟨gb1069, 1, none⟩ = some (.int .i64 x1070001_3) := (blk_cell BK1069.out 1).trans rfl; have hcz35_2 : w31.cell? ⟨gb1069, 2, none⟩ = some (.slice Ao29 x1070002_3.length co29) := (blk_cell BK1069.out 2).trans rfl; have hfz35_0 := blk_frozen BK1069.out 0; have hfz35_1 := blk_frozen BK1069.out 1; have hfz35_2 := blk_frozen BK1069.out 2) | (go_at_call 50; (refine (brokerref32_Same.calls t1071 t1072 _ _ t1073 0 0 _ _ ([] : List Int) true _ ?side1 ?side2 ?side3 ?side4 A24.out).mono ?_); (case side1 => refine (Kd.R_reads' (e := 5) (base := w.heap.size) (ok := fun k_ => (True ∧ some k_ ≠ (.slice Ao29 x1070002_3.length co29 : Value).ownBlock)) (n := t1073.length) (c := co34) ?_).2.2; exact (by (with_reducible repeat (first | apply Kd.R_alloc | apply Kd.R_drewN | apply Kd.R_drew)); exact (Kd.R_mono (Kd.R_far (p := ⟨gb1078, 2, none⟩) (Kd.R_far (p := ⟨gb1078, 1, none⟩) (Kd.R_far (p := ⟨gb1078, 0, none⟩) (Kd.R_types HO1075.out BK1078.out (by decide)) (fun _ hk => hk.2) (.int .i64 t1071)) (fun _ hk => hk.2) (.int .i64 t1072)) (fun _ hk => hk.2) (.slice Ao34 t1073.length co34)) (fun _ h_ => h_.1)))); (case side2 => exact (Kd.R_reads' HO1075.out).2.1); (case side3 => exact Kd.C_nil _ _); (case side4 => exact Nat.le_refl _); rintro e w36 ⟨rfl, hb⟩; replace HO_1070002 := Aside0.mk (Kd.R_below (by (with_reducible repeat (first | apply Kd.R_alloc | apply Kd.R_drewN | apply Kd.R_drew)); exact (Kd.R_mono (Kd.R_far (p := ⟨gb1078, 2, none⟩) (Kd.R_far (p := ⟨gb1078, 1, none⟩) (Kd.R_far (p := ⟨gb1078, 0, none⟩) (Kd.R_types HO_1070002.out BK1078.out (by decide)) (fun _ hk => hk.2) (.int .i64 t1071)) (fun _ hk => hk.2) (.int .i64 t1072)) (fun _ hk => hk.2) (.slice Ao34 t1073.length co34)) (fun _ h_ => h_.1))) hb); replace HO1075 := Aside0.mk (Kd.R_below (by (with_reducible repeat (first | apply Kd.R_alloc | apply Kd.R_drewN | apply Kd.R_drew)); exact (Kd.R_mono (Kd.R_far (p := ⟨gb1078, 2, none⟩) (Kd.R_far (p := ⟨gb1078, 1, none⟩) (Kd.R_far (p := ⟨gb1078, 0, none⟩) (Kd.R_types HO1075.out BK1078.out (by decide)) (fun _ hk => hk.2) (.int .i64 t1071)) (fun _ hk => hk.2) (.int .i64 t1072)) (fun _ hk => hk.2) (.slice Ao34 t1073.length co34)) (fun _ h_ => h_.1))) hb); replace BK1069 := Aside0.mk (blk_below (g := gb1069) (o := .cells #[.int .i64 x1070000_3, .int .i64 x1070001_3, .slice Ao29 x1070002_3.length co29] 43 (0, 0)) (by refine Hlp.bp (blk_far ?_ NB1069_1078.out _); refine Hlp.bp (blk_far ?_ NB1069_1078.out _); refine Hlp.bp (blk_far ?_ NB1069_1078.out _); exact Hlp.bp BK1069.out) hb); replace BK1078 := Aside0.mk (blk_below (g := gb1078) (o := .cells #[.int .i64 t1071, .int .i64 t1072, .slice Ao34 t1073.length co34] 43 (0, 0)) (by refine Hlp.bp (blk_put (cs := #[.int .i64 t1071, .int .i64 t1072, .slice none 0 0]) ?_ 2 _ rfl); refine Hlp.bp (blk_put (cs := #[.int .i64 t1071, .int .i64 0, .slice none 0 0]) ?_ 1 _ rfl); refine Hlp.bp (blk_put (cs := #[.int .i64 0, .int .i64 0, .slice none 0 0]) ?_ 0 _ rfl); exact Hlp.bp BK1078.out) hb); replace HB := Aside0.mk (below_step (Hlp.bl HB.out) hb); (try clear hb); (try clear hb2); (try clear hk); (try clear hi)) | (go_at_call 47; (with_reducible refine (brokerlaw32_awake.calls k3  t1080 _ A26.out).mono ?_); rintro e w37 ⟨rfl, hb⟩; replace HO_1070002 := Aside0.mk (Kd.R_below (Hlp.rp HO_1070002.out) hb); replace HO1075 := Aside0.mk (Kd.R_below (Hlp.rp HO1075.out) hb); replace BK1069 := Aside0.mk (blk_below (g := gb1069) (o := .cells #[.int .i64 x1070000_3, .int .i64 x1070001_3, .slice Ao29 x1070002_3.length co29] 43 (0, 0)) (Hlp.bp BK1069.out) hb); replace BK1078 := Aside0.mk (blk_below (g := gb1078) (o := .cells #[.int .i64 t1071, .int .i64 t1072, .slice Ao34 t1073.length co34] 43 (0, 0)) (Hlp.bp BK1078.out) hb); replace HB := Aside0.mk (below_step (Hlp.bl HB.out) hb); (try clear hb); (try clear hb2); (try clear hk); (try clear hi)))
                go_ret
                exact ⟨by first | rfl | (simp [errW_none, errW_some] <;> rfl) | (simp only [← hji10]; first | rfl | (simp [errW_none, errW_some] <;> rfl)) | (simp [*, errW_none, errW_some] <;> rfl), Hlp.bl HB.out⟩
               ·
                replace c25 := Bool.eq_false_iff.mpr c25
                subst c25
                have H1 : (none) = some r := by rw [if_neg (show ¬ (false = true) by decide)] at H; exact H
                clear H
                have H := H1
                clear H1
                exact absurd H (by simp)
              ·
               rw [if_neg c23] at H
               have c23b0 : (t1076 == 0) = false := beq_eq_false_iff_ne.mpr c23
               have c23b1 : (t1076 != 0) = true := bne_iff_ne.mpr c23
               exact absurd H (by simp)
             ·
              rw [if_neg c22] at H
              have c22b0 : (t1077 == 6) = false := beq_eq_false_iff_ne.mpr c22
              have c22b1 : (t1077 != 6) = true := bne_iff_ne.mpr c22
              exact absurd H (by simp)
            ·
             rw [if_neg c21] at H
             have c21b0 : decide (65536 < (wrap64 ((x1070002_3.length : Int) + t1070))) = false := decide_eq_false c21
             clear c21
             by_cases c66 : t1077 = 0
             ·
              rw [if_pos c66] at H
              have c66b0 : (t1077 == 0) = true := beq_iff_eq.mpr c66
              have c66b1 : (t1077 != 0) = false := bne_eq_false_iff_eq.mpr c66
              clear c66
              by_cases c67 : t1076 = (wrap64 (a0 + x7_3))
              ·
               rw [if_pos c67] at H
               have c67b0 : (t1076 == (wrap64 (a0 + x7_3))) = true := beq_iff_eq.mpr c67
               have c67b1 : (t1076 != (wrap64 (a0 + x7_3))) = false := bne_eq_false_iff_eq.mpr c67
               clear c67
               by_cases c68 : (t1073.length : Int) = (wrap64 ((x1070002_3.length : Int) + t1070))
               ·
                rw [if_pos c68] at H
                have c68b0 : ((t1073.length : Int) == (wrap64 ((x1070002_3.length : Int) + t1070))) = true := beq_iff_eq.mpr c68
                have c68b1 : ((t1073.length : Int) != (wrap64 ((x1070002_3.length : Int) + t1070))) = false := bne_eq_false_iff_eq.mpr c68
                clear c68
                have H' := Aside0.mk H
                clear H
                go_wp2_with (first | ((with_reducible refine gate_callee (f := 63) rfl ?_); refine goesL_ (some 43) rfl rfl Try.func63 (by kernel_rfl) rfl #[.agg #[.int .i64 (wrap64 (a0 + x7_3)), .int .i64 1, .string (⟨#[107]⟩ : ByteArray), .string (x5_2.extract 0 ((ji10) : Int).toNat)]] rfl (by (try simp only [List.map_toArray, List.map_cons, List.map_nil]); first | done | (simp only [hji10]; rfl) | rfl | (simp only [List.length_drop, List.length_take]; rfl)) ?_; (with_reducible refine (brokerref31_Size.calls k3 (wrap64 (a0 + x7_3)) 1 (⟨#[107]⟩ : ByteArray) (x5_2.extract 0 ((ji10) : Int).toNat) t1070 _ A19.out).mono ?_); rintro e w69 ⟨rfl, hb⟩; refine ⟨_, rfl, ?_⟩; replace HO_1070002 := Aside0.mk (Kd.R_below (Hlp.rp HO_1070002.out) hb); replace BK1069 := Aside0.mk (blk_below (g := gb1069) (o := .cells #[.int .i64 x1070000_3, .int .i64 x1070001_3, u1070002] 43 (0, 0)) (Hlp.bp BK1069.out) hb); replace HB := Aside0.mk (below_step (Hlp.bl HB.out) hb); (try clear hb); (try clear hb2); (try clear hk); (try clear hi); have hcz70_0 : w69.cell? ⟨gb1069, 0, none⟩ = some (.int .i64 x1070000_3) := (blk_cell BK1069.out 0).trans rfl; have hcz70_1 : w69.cell? ⟨gb1069, 1, none⟩ = some (.int .i64 x1070001_3) := (blk_cell BK1069.out 1).trans rfl; have hcz70_2 : w69.cell? ⟨gb1069, 2, none⟩ = some (u1070002) := (blk_cell BK1069.out 2).trans rfl; have hfz70_0 := blk_frozen BK1069.out 0; have hfz70_1 := blk_frozen BK1069.out 1; have hfz70_2 := blk_frozen BK1069.out 2; obtain ⟨Ao71, co71, eo71⟩ := Kd.R_slice HO_1070002.out; subst eo71) | ((with_reducible refine gate_callee (f := 53) rfl ?_); refine goesL_ (some 47) rfl rfl Try.func53 (by kernel_rfl) rfl #[.agg #[.int .i64 x1070000_3, .int .i64 x1070001_3, .slice Ao71 x1070002_3.length co71], .int .i64 1, .string (⟨#[107]⟩ : ByteArray), .string (x5_2.extract 0 ((ji10) : Int).toNat)] rfl (by (try simp only [List.map_toArray, List.map_cons, List.map_nil]); first | done | (simp only [hji10]; rfl) | rfl | (simp only [List.length_drop, List.length_take]; rfl)) ?_; (with_reducible refine (segment_Append.calls k3 x1070000_3 x1070001_3 _ _ x1070002_3 1 (⟨#[107]⟩ : ByteArray) (x5_2.extract 0 ((ji10) : Int).toNat) t1071 t1072 t1073 t1076 t1077 _ ?side1 ?side2 A20.out).mono ?_); (case side1 => exact Hlp.cp (Kd.R_reads' HO_1070002.out).2.2); (case side2 => exact (Kd.R_reads' HO_1070002.out).2.1); rintro e w72 ⟨v1074, rfl, ho0, hb⟩; refine ⟨_, rfl, ?_⟩; have HO1075 := Aside0.mk (Kd.R_lower (Kd.R_new' ho0 (Kd.R_lt (Hlp.rp HO_1070002.out))) (below_size (Hlp.bl HB.out))); replace HO_1070002 := Aside0.mk (Kd.R_elder' (Hlp.rp HO_1070002.out) (Kd.R_base ho0) hb); replace BK1069 := Aside0.mk (blk_below (g := gb1069) (o := .cells #[.int .i64 x1070000_3, .int .i64 x1070001_3, .slice Ao71 x1070002_3.length co71] 43 (0, 0)) (Hlp.bp BK1069.out) hb); replace HB := Aside0.mk (below_step (Hlp.bl HB.out) hb); (try clear hb); (try clear hb2); (try clear hk); (try clear hi); (try clear ho0)) | ((with_reducible refine gate_dst (N := 9) rfl ?_); (try (refine gate_guard (by rfl) ?_; dsimp only)); refine Hlp.bx (N := 9) (cs := #[.int .i64 0, .int .i64 0, .slice none 0 0]) (t := 43) ?_; intro gb1078 hg w73 hbox hb; replace HO_1070002 := Aside0.mk (Kd.R_below (Hlp.rp HO_1070002.out) hb); replace HO1075 := Aside0.mk (Kd.R_below (Hlp.rp HO1075.out) hb); have BK1078 := Aside0.mk (hbox); have GW1078 := Aside0.mk ((by rw [hg]; exact (below_size (Hlp.bl HB.out)) : w.heap.size ≤ gb1078)); have GE1078 := Aside0.mk ((by rw [hg]; exact (below_size (Hlp.bl HB.out)) : w.heap.size ≤ gb1078)); replace HB := Aside0.mk (below_step (Hlp.bl HB.out) hb); have NB1069_1078 := Aside0.mk ((by rw [hg]; exact Nat.ne_of_lt (blk_lt (g := gb1069) (o := .cells #[.int .i64 x1070000_3, .int .i64 x1070001_3, .slice Ao71 x1070002_3.length co71] 43 (0, 0)) (Hlp.bp BK1069.out)) : gb1069 ≠ gb1078)); have NB1078_1069 := Aside0.mk ((by rw [hg]; exact Nat.ne_of_gt (blk_lt (g := gb1069) (o := .cells #[.int .i64 x1070000_3, .int .i64 x1070001_3, .slice Ao71 x1070002_3.length co71] 43 (0, 0)) (Hlp.bp BK1069.out)) : gb1078 ≠ gb1069)); replace BK1069 := Aside0.mk (blk_below (g := gb1069) (o := .cells #[.int .i64 x1070000_3, .int .i64 x1070001_3, .slice Ao71 x1070002_3.length co71] 43 (0, 0)) (Hlp.bp BK1069.out) hb); clear hb hbox hg; have hnb74 := NB1078_1069.out; have hnc74 := NB1069_1078.out; have hcz75_0 : w73.cell? ⟨gb1078, 0, none⟩ = some (.int .i64 0) := (blk_cell BK1078.out 0).trans rfl; have hcz75_1 : w73.cell? ⟨gb1078, 1, none⟩ = some (.int .i64 0) := (blk_cell BK1078.out 1).trans rfl; have hcz75_2 : w73.cell? ⟨gb1078, 2, none⟩ = some (.slice none 0 0) := (blk_cell BK1078.out 2).trans rfl; have hfz75_0 := blk_frozen BK1078.out 0; have hfz75_1 := blk_frozen BK1078.out 1; have hfz75_2 := blk_frozen BK1078.out 2; obtain ⟨Ao76, co76, eo76⟩ := Kd.R_slice HO1075.out; subst eo76; have hcz77_0 : w73.cell? ⟨gb1069, 0, none⟩ = some (.int .i64 x1070000_3) := (blk_cell BK1069.out 0).trans rfl; have hcz77_1 : w73.cell? ⟨gb1069, 1, none⟩ = some (.int .i64 x1070001_3) := (blk_cell BK1069.out 1).trans rfl; have hcz77_2 : w73.cell? ⟨gb1069, 2, none⟩ = some (.slice Ao71 x1070002_3.length co71) := (blk_cell BK1069.out 2).trans rfl; have hfz77_0 := blk_frozen BK1069.out 0; have hfz77_1 := blk_frozen BK1069.out 1; have hfz77_2 := blk_frozen BK1069.out 2))
                go_roundg k3
                case measure => have := HJ2.out; have := HK2.out; have := HK3.out; omega
                case rel => exact ⟨(wrap64 (x7_3 + 1)), (t1071), (t1072), (t1073), (.slice Ao76 t1073.length co76), (by first | rfl | (simp; done) | (simp [*]; done)), H', ⟨by have := HJ2.out; have := HK2.out; have := HK3.out; omega⟩, ⟨by (with_reducible repeat (first | apply Kd.R_alloc | apply Kd.R_drewN | apply Kd.R_drew)); exact Kd.R_mono (Kd.R_far (p := ⟨gb1069, 2, none⟩) (Kd.R_far (p := ⟨gb1069, 1, none⟩) (Kd.R_far (p := ⟨gb1069, 0, none⟩) (Kd.R_far (p := ⟨gb1078, 2, none⟩) (Kd.R_far (p := ⟨gb1078, 1, none⟩) (Kd.R_far (p := ⟨gb1078, 0, none⟩) (Kd.R_types (Kd.R_types HO1075.out BK1078.out (by decide)) BK1069.out (by decide)) (fun _ hk => hk.1.2) (.int .i64 t1071)) (fun _ hk => hk.1.2) (.int .i64 t1072)) (fun _ hk => hk.1.2) (.slice Ao76 t1073.length co76)) (fun _ hk => hk.2) (.int .i64 t1071)) (fun _ hk => hk.2) (.int .i64 t1072)) (fun _ hk => hk.2) (.slice Ao76 t1073.length co76)) (fun _ hk => trivial)⟩, ⟨by refine Hlp.bp (blk_put (cs := #[.int .i64 t1071, .int .i64 t1072, .slice Ao71 x1070002_3.length co71]) ?_ 2 _ rfl); refine Hlp.bp (blk_put (cs := #[.int .i64 t1071, .int .i64 x1070001_3, .slice Ao71 x1070002_3.length co71]) ?_ 1 _ rfl); refine Hlp.bp (blk_put (cs := #[.int .i64 x1070000_3, .int .i64 x1070001_3, .slice Ao71 x1070002_3.length co71]) ?_ 0 _ rfl); refine Hlp.bp (blk_far ?_ NB1069_1078.out _); refine Hlp.bp (blk_far ?_ NB1069_1078.out _); refine Hlp.bp (blk_far ?_ NB1069_1078.out _); exact Hlp.bp BK1069.out⟩, ⟨Hlp.bl HB.out⟩⟩
               ·
                rw [if_neg c68] at H
                have c68b0 : ((t1073.length : Int) == (wrap64 ((x1070002_3.length : Int) + t1070))) = false := beq_eq_false_iff_ne.mpr c68
                have c68b1 : ((t1073.length : Int) != (wrap64 ((x1070002_3.length : Int) + t1070))) = true := bne_iff_ne.mpr c68
                exact absurd H (by simp)
              ·
               rw [if_neg c67] at H
               have c67b0 : (t1076 == (wrap64 (a0 + x7_3))) = false := beq_eq_false_iff_ne.mpr c67
               have c67b1 : (t1076 != (wrap64 (a0 + x7_3))) = true := bne_iff_ne.mpr c67
               exact absurd H (by simp)
             ·
              rw [if_neg c66] at H
              have c66b0 : (t1077 == 0) = false := beq_eq_false_iff_ne.mpr c66
              have c66b1 : (t1077 != 0) = true := bne_iff_ne.mpr c66
              exact absurd H (by simp)
           ·
            rw [if_neg c18] at H
            have c18b0 : decide (x7_3 < 18) = false := decide_eq_false c18
            clear c18
            exact absurd H (by simp)
        ·
         rw [if_neg c12] at H
         exact absurd H (by simp)
       ·
        rw [if_neg c11] at H
        exact absurd H (by simp)

/-- THE ONE PURE STATEMENT of brokerlaw32_SegmentFull: yours. -/
def brokerlaw32_SegmentFull.Pure : Prop := ∀ (a0 : Int) (a1 : Int), (Lit.int .i64 a0).wf = true → (Lit.int .u8 a1).wf = true → ∃ k, brokerlaw32_SegmentFull.f k a0 a1 = some true
theorem brokerlaw32_SegmentFull.walk (P : brokerlaw32_SegmentFull.Pure) (a0 : Int) (a1 : Int) (w : World) (w0 : (Lit.int .i64 a0).wf = true) (w1 : (Lit.int .u8 a1).wf = true) :
 Calls Try.prog 20 #[.int .i64 a0, .int .u8 a1] w fun e w' => e = .returned (.bool true) ∧ Below w.heap.size w w' := by
 obtain ⟨k, h⟩ := P a0 a1 w0 w1
 refine (brokerlaw32_SegmentFull.calls k a0 a1 true w h).mono ?_
 rintro e w' ⟨rfl, hd⟩
 exact ⟨rfl, hd⟩

end Go.Proofs.Ytkkelbakadbbhaa.J
