/- Lean functions that compute what the Go functions named below compute; each theorem '.calls': if its Lean function has an answer, the Go function returns it. -/
import Derived.Test.YtkklehfcadkikaaJx0
import Derived.Test.YtkklehfcadkikaaJx1
import Derived.Test.YtkklehfcadkikaaJx2
import Derived.Test.YtkklehfcadkikaaJx3
import Derived.Test.YtkklehfcadkikaaJx4
import Derived.Test.YtkklehfcadkikaaJx18
import Derived.Test.YtkklehfcadkikaaJx19
namespace Go.Proofs.Ytkklehfcadkikaa.J
open Go.RowKit Go.Proofs.YtkklehfcadkikaaW.PrintWords Go.Proofs.YtkklehfcadkikaaW.PrintLast Go.Proofs.YtkklehfcadkikaaW.PrintMore
attribute [local go_sem] max2_int min2_int max_two min_two max_three min_three max_four min_four   -- for this text's walks alone
set_option linter.unusedVariables false
set_option linter.unusedSimpArgs false

/-! ### brokerlaw03_PackTorn: function 16 -/
mutual
def brokerlaw03_PackTorn.j0 : Nat → Int → Bool → List Int → List Int → Int → ByteArray → List ByteArray → Option (Bool)
  | 0, _, _, _, _, _, _, _ => none
  | k + 1, x1, x21, x536000, x536001, x536002, x536003, x536004 => if x21 = true then ((brokerlaw03_awake.f k).bind fun t537 => (some t537)) else ((pack_PutNum.f k ([] : List Int) x536002).bind fun t538 => (if x1 < (t538.length : Int) then (if 0 ≤ x1 then (if x1 ≤ (t538.length : Int) then ((pack_Num.f k (t538.take (x1 : Int).toNat) 0).bind fun bt545 => (if bt545.2.2 = 3 then (brokerlaw03_PackTorn.j1 k x1 x536000 x536001 x536002 x536003 x536004) else (some false))) else (none)) else (none)) else (brokerlaw03_PackTorn.j1 k x1 x536000 x536001 x536002 x536003 x536004)))
def brokerlaw03_PackTorn.j1 : Nat → Int → List Int → List Int → Int → ByteArray → List ByteArray → Option (Bool)
  | 0, _, _, _, _, _, _ => none
  | k + 1, x1, x536000, x536001, x536002, x536003, x536004 => (pack_PutText.f k ([] : List Int) x536003).bind fun t548 => (if x1 < (t548.length : Int) then (if 0 ≤ x1 then (if x1 ≤ (t548.length : Int) then ((pack_Text.f k (t548.take (x1 : Int).toNat) 0 400).bind fun bt555 => (if bt555.2.2 = 3 then (brokerlaw03_PackTorn.j2 k x1 x536000 x536001 x536002 x536003 x536004) else (some false))) else (none)) else (none)) else (brokerlaw03_PackTorn.j2 k x1 x536000 x536001 x536002 x536003 x536004))
def brokerlaw03_PackTorn.j2 : Nat → Int → List Int → List Int → Int → ByteArray → List ByteArray → Option (Bool)
  | 0, _, _, _, _, _, _ => none
  | k + 1, x1, x536000, x536001, x536002, x536003, x536004 => (pack_PutTexts.f k ([] : List Int) x536004).bind fun t558 => (if x1 < (t558.length : Int) then (if 0 ≤ x1 then (if x1 ≤ (t558.length : Int) then ((pack_Texts.f k (t558.take (x1 : Int).toNat) 0 400).bind fun bt565 => (if bt565.2.2 = 3 then ((brokerlaw03_awake.f k).bind fun t570 => (some t570)) else (some false))) else (none)) else (none)) else ((brokerlaw03_awake.f k).bind fun t571 => (some t571)))
end
def brokerlaw03_PackTorn.f (k : Nat) (l0_0 : List Int) (l0_1 : List Int) (a0_2 : Int) (a0_3 : ByteArray) (l0_4 : List ByteArray) (a1 : Int) : Option (Bool) := (brokerlaw03_fair.f k l0_0 l0_1 a0_2 a0_3 l0_4).bind fun t536 => (if t536 = true then (brokerlaw03_PackTorn.j0 k a1 (decide (a1 < 0)) l0_0 l0_1 a0_2 a0_3 l0_4) else (brokerlaw03_PackTorn.j0 k a1 true l0_0 l0_1 a0_2 a0_3 l0_4))
theorem brokerlaw03_PackTorn.mono_l : ∀ k, (∀ y0 y1 y2 y3 y4 y5 y6, LeO (brokerlaw03_PackTorn.j0 k y0 y1 y2 y3 y4 y5 y6) (brokerlaw03_PackTorn.j0 (k + 1) y0 y1 y2 y3 y4 y5 y6)) ∧ (∀ y0 y1 y2 y3 y4 y5, LeO (brokerlaw03_PackTorn.j1 k y0 y1 y2 y3 y4 y5) (brokerlaw03_PackTorn.j1 (k + 1) y0 y1 y2 y3 y4 y5)) ∧ (∀ y0 y1 y2 y3 y4 y5, LeO (brokerlaw03_PackTorn.j2 k y0 y1 y2 y3 y4 y5) (brokerlaw03_PackTorn.j2 (k + 1) y0 y1 y2 y3 y4 y5))
  | 0 => ⟨fun _ _ _ _ _ _ _ r h => by simp [brokerlaw03_PackTorn.j0] at h, fun _ _ _ _ _ _ r h => by simp [brokerlaw03_PackTorn.j1] at h, fun _ _ _ _ _ _ r h => by simp [brokerlaw03_PackTorn.j2] at h⟩
  | k + 1 => by
    obtain ⟨ih0, ih1, ih2⟩ := brokerlaw03_PackTorn.mono_l k
    refine ⟨?_, ?_, ?_⟩
    · intro y0 y1 y2 y3 y4 y5 y6
      unfold brokerlaw03_PackTorn.j0
      repeat' first
      | (with_reducible exact ih0 _ _ _ _ _ _ _)
      | (with_reducible exact ih1 _ _ _ _ _ _)
      | (with_reducible exact ih2 _ _ _ _ _ _)
      | (with_reducible exact brokerlaw03_awake.mono _)
      | (with_reducible exact brokerlaw03_fair.mono _ _ _ _ _ _)
      | (with_reducible exact pack_Num.mono _ _ _)
      | (with_reducible exact pack_PutNum.mono _ _ _)
      | (with_reducible exact pack_PutText.mono _ _ _)
      | (with_reducible exact pack_PutTexts.mono _ _ _)
      | (with_reducible exact pack_Text.mono _ _ _ _)
      | (with_reducible exact pack_Texts.mono _ _ _ _)
      | (with_reducible exact LeO.refl _)
      | (with_reducible exact LeO.none _)
      | (with_reducible refine LeO.ite ?_ ?_)
      | (with_reducible refine LeO.bind ?_ (fun _ => ?_))
      | exact ih0 _ _ _ _ _ _ _
      | exact ih1 _ _ _ _ _ _
      | exact ih2 _ _ _ _ _ _
      | exact brokerlaw03_awake.mono _
      | exact brokerlaw03_fair.mono _ _ _ _ _ _
      | exact pack_Num.mono _ _ _
      | exact pack_PutNum.mono _ _ _
      | exact pack_PutText.mono _ _ _
      | exact pack_PutTexts.mono _ _ _
      | exact pack_Text.mono _ _ _ _
      | exact pack_Texts.mono _ _ _ _
      | exact LeO.none _
      | refine LeO.ite ?_ ?_
      | refine LeO.bind ?_ (fun _ => ?_)
    · intro y0 y1 y2 y3 y4 y5
      unfold brokerlaw03_PackTorn.j1
      repeat' first
      | (with_reducible exact ih0 _ _ _ _ _ _ _)
      | (with_reducible exact ih1 _ _ _ _ _ _)
      | (with_reducible exact ih2 _ _ _ _ _ _)
      | (with_reducible exact brokerlaw03_awake.mono _)
      | (with_reducible exact brokerlaw03_fair.mono _ _ _ _ _ _)
      | (with_reducible exact pack_Num.mono _ _ _)
      | (with_reducible exact pack_PutNum.mono _ _ _)
      | (with_reducible exact pack_PutText.mono _ _ _)
      | (with_reducible exact pack_PutTexts.mono _ _ _)
      | (with_reducible exact pack_Text.mono _ _ _ _)
      | (with_reducible exact pack_Texts.mono _ _ _ _)
      | (with_reducible exact LeO.refl _)
      | (with_reducible exact LeO.none _)
      | (with_reducible refine LeO.ite ?_ ?_)
      | (with_reducible refine LeO.bind ?_ (fun _ => ?_))
      | exact ih0 _ _ _ _ _ _ _
      | exact ih1 _ _ _ _ _ _
      | exact ih2 _ _ _ _ _ _
      | exact brokerlaw03_awake.mono _
      | exact brokerlaw03_fair.mono _ _ _ _ _ _
      | exact pack_Num.mono _ _ _
      | exact pack_PutNum.mono _ _ _
      | exact pack_PutText.mono _ _ _
      | exact pack_PutTexts.mono _ _ _
      | exact pack_Text.mono _ _ _ _
      | exact pack_Texts.mono _ _ _ _
      | exact LeO.none _
      | refine LeO.ite ?_ ?_
      | refine LeO.bind ?_ (fun _ => ?_)
    · intro y0 y1 y2 y3 y4 y5
      unfold brokerlaw03_PackTorn.j2
      repeat' first
      | (with_reducible exact ih0 _ _ _ _ _ _ _)
      | (with_reducible exact ih1 _ _ _ _ _ _)
      | (with_reducible exact ih2 _ _ _ _ _ _)
      | (with_reducible exact brokerlaw03_awake.mono _)
      | (with_reducible exact brokerlaw03_fair.mono _ _ _ _ _ _)
      | (with_reducible exact pack_Num.mono _ _ _)
      | (with_reducible exact pack_PutNum.mono _ _ _)
      | (with_reducible exact pack_PutText.mono _ _ _)
      | (with_reducible exact pack_PutTexts.mono _ _ _)
      | (with_reducible exact pack_Text.mono _ _ _ _)
      | (with_reducible exact pack_Texts.mono _ _ _ _)
      | (with_reducible exact LeO.refl _)
      | (with_reducible exact LeO.none _)
      | (with_reducible refine LeO.ite ?_ ?_)
      | (with_reducible refine LeO.bind ?_ (fun _ => ?_))
      | exact ih0 _ _ _ _ _ _ _
      | exact ih1 _ _ _ _ _ _
      | exact ih2 _ _ _ _ _ _
      | exact brokerlaw03_awake.mono _
      | exact brokerlaw03_fair.mono _ _ _ _ _ _
      | exact pack_Num.mono _ _ _
      | exact pack_PutNum.mono _ _ _
      | exact pack_PutText.mono _ _ _
      | exact pack_PutTexts.mono _ _ _
      | exact pack_Text.mono _ _ _ _
      | exact pack_Texts.mono _ _ _ _
      | exact LeO.none _
      | refine LeO.ite ?_ ?_
      | refine LeO.bind ?_ (fun _ => ?_)
theorem brokerlaw03_PackTorn.mono : ∀ a0 a1 a2 a3 a4 a5 k, LeO (brokerlaw03_PackTorn.f k a0 a1 a2 a3 a4 a5) (brokerlaw03_PackTorn.f (k + 1) a0 a1 a2 a3 a4 a5) := by
  intro a0 a1 a2 a3 a4 a5 k
  obtain ⟨ih0, ih1, ih2⟩ := brokerlaw03_PackTorn.mono_l k
  unfold brokerlaw03_PackTorn.f
  repeat' first
      | (with_reducible exact ih0 _ _ _ _ _ _ _)
      | (with_reducible exact ih1 _ _ _ _ _ _)
      | (with_reducible exact ih2 _ _ _ _ _ _)
      | (with_reducible exact brokerlaw03_awake.mono _)
      | (with_reducible exact brokerlaw03_fair.mono _ _ _ _ _ _)
      | (with_reducible exact pack_Num.mono _ _ _)
      | (with_reducible exact pack_PutNum.mono _ _ _)
      | (with_reducible exact pack_PutText.mono _ _ _)
      | (with_reducible exact pack_PutTexts.mono _ _ _)
      | (with_reducible exact pack_Text.mono _ _ _ _)
      | (with_reducible exact pack_Texts.mono _ _ _ _)
      | (with_reducible exact LeO.refl _)
      | (with_reducible exact LeO.none _)
      | (with_reducible refine LeO.ite ?_ ?_)
      | (with_reducible refine LeO.bind ?_ (fun _ => ?_))
      | exact ih0 _ _ _ _ _ _ _
      | exact ih1 _ _ _ _ _ _
      | exact ih2 _ _ _ _ _ _
      | exact brokerlaw03_awake.mono _
      | exact brokerlaw03_fair.mono _ _ _ _ _ _
      | exact pack_Num.mono _ _ _
      | exact pack_PutNum.mono _ _ _
      | exact pack_PutText.mono _ _ _
      | exact pack_PutTexts.mono _ _ _
      | exact pack_Text.mono _ _ _ _
      | exact pack_Texts.mono _ _ _ _
      | exact LeO.none _
      | refine LeO.ite ?_ ?_
      | refine LeO.bind ?_ (fun _ => ?_)
set_option maxHeartbeats 8000000 in
set_option maxRecDepth 100000 in
theorem brokerlaw03_PackTorn.calls (k : Nat) (A0_0 : Option Addr) (c0_0 : Nat) (l0_0 : List Int) (A0_1 : Option Addr) (c0_1 : Nat) (l0_1 : List Int) (a0_2 : Int) (a0_3 : ByteArray) (A0_4 : Option Addr) (c0_4 : Nat) (l0_4 : List ByteArray) (a1 : Int) (r : Bool) (w : World) (hr0_0 : Kd.C (Kd.int .u8) w A0_0 l0_0.length l0_0) (hc0_0 : l0_0.length ≤ c0_0) (hr0_1 : Kd.C (Kd.int .u8) w A0_1 l0_1.length l0_1) (hc0_1 : l0_1.length ≤ c0_1) (hr0_4 : Kd.C Kd.string w A0_4 l0_4.length l0_4) (hc0_4 : l0_4.length ≤ c0_4) (h : brokerlaw03_PackTorn.f k l0_0 l0_1 a0_2 a0_3 l0_4 a1 = some r) :
    Calls Try.prog 16 #[.agg #[.slice A0_0 l0_0.length c0_0, .slice A0_1 l0_1.length c0_1, .int .i64 a0_2, .string a0_3, .slice A0_4 l0_4.length c0_4], .int .i64 a1] w fun e w' => e = .returned (.bool r) ∧ Below w.heap.size w w' := by
  have hu54 := Try.underlying54
  have HR0_0 := Aside0.mk hr0_0
  have HC0_0 := Aside0.mk hc0_0
  clear hr0_0 hc0_0
  have HR0_1 := Aside0.mk hr0_1
  have HC0_1 := Aside0.mk hc0_1
  clear hr0_1 hc0_1
  have HR0_4 := Aside0.mk hr0_4
  have HC0_4 := Aside0.mk hc0_4
  clear hr0_4 hc0_4
  have HB := Aside0.mk (Below.refl w.heap.size w)
  have H : ((brokerlaw03_fair.f k l0_0 l0_1 a0_2 a0_3 l0_4).bind fun t536 => (if t536 = true then (brokerlaw03_PackTorn.j0 k a1 (decide (a1 < 0)) l0_0 l0_1 a0_2 a0_3 l0_4) else (brokerlaw03_PackTorn.j0 k a1 true l0_0 l0_1 a0_2 a0_3 l0_4))) = some r := h
  clear h
  have HC3 := Aside0.mk H
  clear H
  go_enter Try.func16, Try.ntmps16
  go_upto_region 1 with (first | ((with_reducible refine gate_dst (N := 2) rfl ?_); refine box_event ?hg (N := 2) ?hd (cs := #[.slice A0_0 l0_0.length c0_0, .slice A0_1 l0_1.length c0_1, .int .i64 a0_2, .string a0_3, .slice A0_4 l0_4.length c0_4]) (t := 54) ?hr ?_; (case hd => rfl); (case hg => rfl); (case hr => first | (go_simp; done) | (go_simp; rfl)); intro gb535 hg w4 hbox hb; have n0_ := Aside0.mk (below_step (by repeat (first | (with_reducible first | exact HB.out | apply below_alloc | apply pw_below_drewN | apply below_drew1) | exact HB.out)) hb); have n1_ := Aside0.mk (hbox); have n2_ := Aside0.mk ((by rw [hg]; exact (below_size (by repeat (first | (with_reducible first | exact HB.out | apply below_alloc | apply pw_below_drewN | apply below_drew1) | exact HB.out))) : w.heap.size ≤ gb535)); have n3_ := Aside0.mk ((by rw [hg]; exact (below_size (by repeat (first | (with_reducible first | exact HB.out | apply below_alloc | apply pw_below_drewN | apply below_drew1) | exact HB.out))) : w.heap.size ≤ gb535)); clear HB; have HB := n0_; have BK535 := n1_; have GW535 := n2_; have GE535 := n3_; clear n0_ n1_ n2_ n3_; clear hb hbox hg))
  (try simp only [Act.put, List.setIfInBounds_toArray, List.set_cons_zero, List.set_cons_succ])
  go_cut [21] (fun v21 wc => ∃ (kq : Nat) (x21_2 : Bool), v21 = .bool x21_2 ∧ Aside0 (brokerlaw03_PackTorn.j0 kq a1 x21_2 l0_0 l0_1 a0_2 a0_3 l0_4 = some r) ∧ Aside0 (kq ≤ k) ∧ Aside0 (wc.heap[gb535]? = some (.cells #[(.slice A0_0 l0_0.length c0_0), (.slice A0_1 l0_1.length c0_1), .int .i64 a0_2, .string a0_3, (.slice A0_4 l0_4.length c0_4)] 54 (0, 0))) ∧ Aside0 (Below w.heap.size w wc))
  case first =>
    have H := HC3.out
    clear HC3
    replace H := Option.bind_eq_some_iff.mp H
    obtain ⟨t536, A50, H⟩ := H
    replace H : (if t536 = true then (brokerlaw03_PackTorn.j0 k a1 (decide (a1 < 0)) l0_0 l0_1 a0_2 a0_3 l0_4) else (brokerlaw03_PackTorn.j0 k a1 true l0_0 l0_1 a0_2 a0_3 l0_4)) = some r := H
    have A5 := Aside0.mk A50
    clear A50
    by_cases c6 : t536 = true
    · subst c6
      have H1 : (brokerlaw03_PackTorn.j0 k a1 (decide (a1 < 0)) l0_0 l0_1 a0_2 a0_3 l0_4) = some r := by rw [if_pos rfl] at H; exact H
      clear H
      have H := H1
      clear H1
      have H' := Aside0.mk H
      clear H
      have hcz7_0 : w4.cell? ⟨gb535, 0, none⟩ = some (.slice A0_0 l0_0.length c0_0) := (blk_cell BK535.out 0).trans rfl
      have hcz7_1 : w4.cell? ⟨gb535, 1, none⟩ = some (.slice A0_1 l0_1.length c0_1) := (blk_cell BK535.out 1).trans rfl
      have hcz7_2 : w4.cell? ⟨gb535, 2, none⟩ = some (.int .i64 a0_2) := (blk_cell BK535.out 2).trans rfl
      have hcz7_3 : w4.cell? ⟨gb535, 3, none⟩ = some (.string a0_3) := (blk_cell BK535.out 3).trans rfl
      have hcz7_4 : w4.cell? ⟨gb535, 4, none⟩ = some (.slice A0_4 l0_4.length c0_4) := (blk_cell BK535.out 4).trans rfl
      have hfz7_0 := blk_frozen BK535.out 0
      have hfz7_1 := blk_frozen BK535.out 1
      have hfz7_2 := blk_frozen BK535.out 2
      have hfz7_3 := blk_frozen BK535.out 3
      have hfz7_4 := blk_frozen BK535.out 4
      go_wp2_with (first | ((with_reducible refine gate_callee (f := 48) rfl ?_); refine goesL_ (some 16) rfl rfl Try.func48 (by kernel_rfl) rfl #[.agg #[.slice A0_0 l0_0.length c0_0, .slice A0_1 l0_1.length c0_1, .int .i64 a0_2, .string a0_3, .slice A0_4 l0_4.length c0_4]] rfl (by (try simp only [List.map_toArray, List.map_cons, List.map_nil]); first | done | rfl | (simp only [List.length_drop, List.length_take]; rfl)) ?_; (with_reducible refine (brokerlaw03_fair.calls k _ _ l0_0 _ _ l0_1 a0_2 a0_3 _ _ l0_4 true _ ?side1 ?side2 ?side3 ?side4 ?side5 ?side6 A5.out).mono ?_); (case side1 => repeat (first | exact (Kd.C_below HR0_0.out HB.out) | (with_reducible refine Kd.C_alloc ?_ _) | (with_reducible refine Kd.C_drewN ?_ _) | (with_reducible refine Kd.C_drew ?_))); (case side2 => exact HC0_0.out); (case side3 => repeat (first | exact (Kd.C_below HR0_1.out HB.out) | (with_reducible refine Kd.C_alloc ?_ _) | (with_reducible refine Kd.C_drewN ?_ _) | (with_reducible refine Kd.C_drew ?_))); (case side4 => exact HC0_1.out); (case side5 => repeat (first | exact (Kd.C_below HR0_4.out HB.out) | (with_reducible refine Kd.C_alloc ?_ _) | (with_reducible refine Kd.C_drewN ?_ _) | (with_reducible refine Kd.C_drew ?_))); (case side6 => exact HC0_4.out); rintro e w8 ⟨rfl, hb⟩; refine ⟨_, rfl, ?_⟩; have n0_ := Aside0.mk (blk_below (g := gb535) (o := .cells #[.slice A0_0 l0_0.length c0_0, .slice A0_1 l0_1.length c0_1, .int .i64 a0_2, .string a0_3, .slice A0_4 l0_4.length c0_4] 54 (0, 0)) (by (with_reducible repeat (first | refine blk_drewN ?_ _ | refine blk_drew ?_ | refine blk_alloc ?_ _)); exact BK535.out) hb); have n1_ := Aside0.mk (below_step (by repeat (first | (with_reducible first | exact HB.out | apply below_alloc | apply pw_below_drewN | apply below_drew1 | refine below_set ?_ GE535.out) | exact HB.out)) hb); clear BK535; clear HB; have BK535 := n0_; have HB := n1_; clear n0_ n1_; (try clear hb); (try clear hb2); (try clear hk); (try clear hi)))
      go_meet
      case rel => exact ⟨_, (decide (a1 < 0)), (by first | rfl | (simp; done) | (simp [*]; done)), H', ⟨by first | omega | exact Nat.le_refl _⟩, ⟨by (with_reducible repeat (first | refine blk_drewN ?_ _ | refine blk_drew ?_ | refine blk_alloc ?_ _)); exact BK535.out⟩, ⟨by repeat (first | (with_reducible first | exact HB.out | apply below_alloc | apply pw_below_drewN | apply below_drew1 | refine below_set ?_ GE535.out) | exact HB.out)⟩⟩
    · replace c6 := Bool.eq_false_iff.mpr c6
      subst c6
      have H1 : (brokerlaw03_PackTorn.j0 k a1 true l0_0 l0_1 a0_2 a0_3 l0_4) = some r := by rw [if_neg (show ¬ (false = true) by decide)] at H; exact H
      clear H
      have H := H1
      clear H1
      have H' := Aside0.mk H
      clear H
      have hcz9_0 : w4.cell? ⟨gb535, 0, none⟩ = some (.slice A0_0 l0_0.length c0_0) := (blk_cell BK535.out 0).trans rfl
      have hcz9_1 : w4.cell? ⟨gb535, 1, none⟩ = some (.slice A0_1 l0_1.length c0_1) := (blk_cell BK535.out 1).trans rfl
      have hcz9_2 : w4.cell? ⟨gb535, 2, none⟩ = some (.int .i64 a0_2) := (blk_cell BK535.out 2).trans rfl
      have hcz9_3 : w4.cell? ⟨gb535, 3, none⟩ = some (.string a0_3) := (blk_cell BK535.out 3).trans rfl
      have hcz9_4 : w4.cell? ⟨gb535, 4, none⟩ = some (.slice A0_4 l0_4.length c0_4) := (blk_cell BK535.out 4).trans rfl
      have hfz9_0 := blk_frozen BK535.out 0
      have hfz9_1 := blk_frozen BK535.out 1
      have hfz9_2 := blk_frozen BK535.out 2
      have hfz9_3 := blk_frozen BK535.out 3
      have hfz9_4 := blk_frozen BK535.out 4
      go_wp2_with (first | ((with_reducible refine gate_callee (f := 48) rfl ?_); refine goesL_ (some 16) rfl rfl Try.func48 (by kernel_rfl) rfl #[.agg #[.slice A0_0 l0_0.length c0_0, .slice A0_1 l0_1.length c0_1, .int .i64 a0_2, .string a0_3, .slice A0_4 l0_4.length c0_4]] rfl (by (try simp only [List.map_toArray, List.map_cons, List.map_nil]); first | done | rfl | (simp only [List.length_drop, List.length_take]; rfl)) ?_; (with_reducible refine (brokerlaw03_fair.calls k _ _ l0_0 _ _ l0_1 a0_2 a0_3 _ _ l0_4 false _ ?side1 ?side2 ?side3 ?side4 ?side5 ?side6 A5.out).mono ?_); (case side1 => repeat (first | exact (Kd.C_below HR0_0.out HB.out) | (with_reducible refine Kd.C_alloc ?_ _) | (with_reducible refine Kd.C_drewN ?_ _) | (with_reducible refine Kd.C_drew ?_))); (case side2 => exact HC0_0.out); (case side3 => repeat (first | exact (Kd.C_below HR0_1.out HB.out) | (with_reducible refine Kd.C_alloc ?_ _) | (with_reducible refine Kd.C_drewN ?_ _) | (with_reducible refine Kd.C_drew ?_))); (case side4 => exact HC0_1.out); (case side5 => repeat (first | exact (Kd.C_below HR0_4.out HB.out) | (with_reducible refine Kd.C_alloc ?_ _) | (with_reducible refine Kd.C_drewN ?_ _) | (with_reducible refine Kd.C_drew ?_))); (case side6 => exact HC0_4.out); rintro e w10 ⟨rfl, hb⟩; refine ⟨_, rfl, ?_⟩; have n0_ := Aside0.mk (blk_below (g := gb535) (o := .cells #[.slice A0_0 l0_0.length c0_0, .slice A0_1 l0_1.length c0_1, .int .i64 a0_2, .string a0_3, .slice A0_4 l0_4.length c0_4] 54 (0, 0)) (by (with_reducible repeat (first | refine blk_drewN ?_ _ | refine blk_drew ?_ | refine blk_alloc ?_ _)); exact BK535.out) hb); have n1_ := Aside0.mk (below_step (by repeat (first | (with_reducible first | exact HB.out | apply below_alloc | apply pw_below_drewN | apply below_drew1 | refine below_set ?_ GE535.out) | exact HB.out)) hb); clear BK535; clear HB; have BK535 := n0_; have HB := n1_; clear n0_ n1_; (try clear hb); (try clear hb2); (try clear hk); (try clear hi)))
      go_meet
      case rel => exact ⟨_, (true), (by first | rfl | (simp; done) | (simp [*]; done)), H', ⟨by first | omega | exact Nat.le_refl _⟩, ⟨by (with_reducible repeat (first | refine blk_drewN ?_ _ | refine blk_drew ?_ | refine blk_alloc ?_ _)); exact BK535.out⟩, ⟨by repeat (first | (with_reducible first | exact HB.out | apply below_alloc | apply pw_below_drewN | apply below_drew1 | refine below_set ?_ GE535.out) | exact HB.out)⟩⟩
  case rest =>
    clear HC3
    try clear c1
    try clear p2
    try clear c4
    try clear c6
    try clear hcz7_0
    try clear hcz7_1
    try clear hcz7_2
    try clear hcz7_3
    try clear hcz7_4
    try clear hcz9_0
    try clear hcz9_1
    try clear hcz9_2
    try clear hcz9_3
    try clear hcz9_4
    try clear hfz7_0
    try clear hfz7_1
    try clear hfz7_2
    try clear hfz7_3
    try clear hfz7_4
    try clear hfz9_0
    try clear hfz9_1
    try clear hfz9_2
    try clear hfz9_3
    try clear hfz9_4
    obtain ⟨kq, x21_2, rfl, HA, HJ2, BK535, HB⟩ := hcut
    cases kq with
    | zero => exact absurd HA.out (by simp [brokerlaw03_PackTorn.j0])
    | succ kj2 =>
      have H := HA.out
      clear HA
      simp only [brokerlaw03_PackTorn.j0] at H
      by_cases c11 : x21_2 = true
      · subst c11
        have H1 : ((brokerlaw03_awake.f kj2).bind fun t537 => (some t537)) = some r := by rw [if_pos rfl] at H; exact H
        clear H
        have H := H1
        clear H1
        replace H := Option.bind_eq_some_iff.mp H
        obtain ⟨t537, A120, H⟩ := H
        replace H : (some t537) = some r := H
        have A12 := Aside0.mk A120
        clear A120
        obtain rfl := Option.some.inj H
        go_wp2_with (first | ((with_reducible refine gate_callee (f := 19) rfl ?_); refine goesL_ (some 22) rfl rfl Try.func19 (by kernel_rfl) rfl #[] rfl (by (try simp only [List.map_toArray, List.map_cons, List.map_nil]); first | done | rfl | (simp only [List.length_drop, List.length_take]; rfl)) ?_; (with_reducible refine (brokerlaw03_awake.calls kj2  t537 _ A12.out).mono ?_); rintro e w13 ⟨rfl, hb⟩; refine ⟨_, rfl, ?_⟩; have n0_ := Aside0.mk (blk_below (g := gb535) (o := .cells #[.slice A0_0 l0_0.length c0_0, .slice A0_1 l0_1.length c0_1, .int .i64 a0_2, .string a0_3, .slice A0_4 l0_4.length c0_4] 54 (0, 0)) (by (with_reducible repeat (first | refine blk_drewN ?_ _ | refine blk_drew ?_ | refine blk_alloc ?_ _)); exact BK535.out) hb); have n1_ := Aside0.mk (below_step (by repeat (first | (with_reducible first | exact HB.out | apply below_alloc | apply pw_below_drewN | apply below_drew1 | refine below_set ?_ GE535.out) | exact HB.out)) hb); clear BK535; clear HB; have BK535 := n0_; have HB := n1_; clear n0_ n1_; (try clear hb); (try clear hb2); (try clear hk); (try clear hi)))
        go_ret
        exact ⟨by first | rfl | (simp [errW_none, errW_some] <;> rfl) | (simp [*, errW_none, errW_some] <;> rfl), by repeat (first | (with_reducible first | exact HB.out | apply below_alloc | apply pw_below_drewN | apply below_drew1 | refine below_set ?_ GE535.out) | exact HB.out)⟩
      · replace c11 := Bool.eq_false_iff.mpr c11
        subst c11
        have H1 : ((pack_PutNum.f kj2 ([] : List Int) a0_2).bind fun t538 => (if a1 < (t538.length : Int) then (if 0 ≤ a1 then (if a1 ≤ (t538.length : Int) then ((pack_Num.f kj2 (t538.take (a1 : Int).toNat) 0).bind fun bt545 => (if bt545.2.2 = 3 then (brokerlaw03_PackTorn.j1 kj2 a1 l0_0 l0_1 a0_2 a0_3 l0_4) else (some false))) else (none)) else (none)) else (brokerlaw03_PackTorn.j1 kj2 a1 l0_0 l0_1 a0_2 a0_3 l0_4))) = some r := by rw [if_neg (show ¬ (false = true) by decide)] at H; exact H
        clear H
        have H := H1
        clear H1
        replace H := Option.bind_eq_some_iff.mp H
        obtain ⟨t538, A140, H⟩ := H
        replace H : (if a1 < (t538.length : Int) then (if 0 ≤ a1 then (if a1 ≤ (t538.length : Int) then ((pack_Num.f kj2 (t538.take (a1 : Int).toNat) 0).bind fun bt545 => (if bt545.2.2 = 3 then (brokerlaw03_PackTorn.j1 kj2 a1 l0_0 l0_1 a0_2 a0_3 l0_4) else (some false))) else (none)) else (none)) else (brokerlaw03_PackTorn.j1 kj2 a1 l0_0 l0_1 a0_2 a0_3 l0_4)) = some r := H
        have A14 := Aside0.mk A140
        clear A140
        have HC15 := Aside0.mk H
        clear H
        have hcz16_0 : wc.cell? ⟨gb535, 0, none⟩ = some (.slice A0_0 l0_0.length c0_0) := (blk_cell BK535.out 0).trans rfl
        have hcz16_1 : wc.cell? ⟨gb535, 1, none⟩ = some (.slice A0_1 l0_1.length c0_1) := (blk_cell BK535.out 1).trans rfl
        have hcz16_2 : wc.cell? ⟨gb535, 2, none⟩ = some (.int .i64 a0_2) := (blk_cell BK535.out 2).trans rfl
        have hcz16_3 : wc.cell? ⟨gb535, 3, none⟩ = some (.string a0_3) := (blk_cell BK535.out 3).trans rfl
        have hcz16_4 : wc.cell? ⟨gb535, 4, none⟩ = some (.slice A0_4 l0_4.length c0_4) := (blk_cell BK535.out 4).trans rfl
        have hfz16_0 := blk_frozen BK535.out 0
        have hfz16_1 := blk_frozen BK535.out 1
        have hfz16_2 := blk_frozen BK535.out 2
        have hfz16_3 := blk_frozen BK535.out 3
        have hfz16_4 := blk_frozen BK535.out 4
        go_upto_if 29 with (first | ((with_reducible refine gate_callee (f := 21) rfl ?_); refine goesL_ (some 25) rfl rfl Try.func21 (by kernel_rfl) rfl #[.slice none 0 0, .int .i64 a0_2] rfl (by (try simp only [List.map_toArray, List.map_cons, List.map_nil]); first | done | rfl | (simp only [List.length_drop, List.length_take]; rfl)) ?_; (refine (pack_PutNum.calls kj2 _ _ ([] : List Int) a0_2 t538 _ ?side1 ?side2 A14.out).mono ?_); (case side1 => exact Kd.C_nil _ _); (case side2 => exact Nat.le_refl _); rintro e w17 ⟨v539, rfl, ho0, hb⟩; refine ⟨_, rfl, ?_⟩; have n0_ := Aside0.mk (Kd.R_lower ho0 (below_size (by repeat (first | (with_reducible first | exact HB.out | apply below_alloc | apply pw_below_drewN | apply below_drew1 | refine below_set ?_ GE535.out) | exact HB.out)))); have n1_ := Aside0.mk (blk_below (g := gb535) (o := .cells #[.slice A0_0 l0_0.length c0_0, .slice A0_1 l0_1.length c0_1, .int .i64 a0_2, .string a0_3, .slice A0_4 l0_4.length c0_4] 54 (0, 0)) (by (with_reducible repeat (first | refine blk_drewN ?_ _ | refine blk_drew ?_ | refine blk_alloc ?_ _)); exact BK535.out) hb); have n2_ := Aside0.mk (below_step (by repeat (first | (with_reducible first | exact HB.out | apply below_alloc | apply pw_below_drewN | apply below_drew1 | refine below_set ?_ GE535.out) | exact HB.out)) hb); clear BK535; clear HB; have HO540 := n0_; have BK535 := n1_; have HB := n2_; clear n0_ n1_ n2_; (try clear hb); (try clear hb2); (try clear hk); (try clear hi); (try clear ho0); obtain ⟨Ao18, co18, eo18⟩ := Kd.R_slice HO540.out; subst eo18))
        (try simp only [Act.put, List.setIfInBounds_toArray, List.set_cons_zero, List.set_cons_succ])
        go_cut [] (fun wc => ∃ (kq : Nat), Aside0 (brokerlaw03_PackTorn.j1 kq a1 l0_0 l0_1 a0_2 a0_3 l0_4 = some r) ∧ Aside0 (kq ≤ kj2) ∧ Aside0 (wc.heap[gb535]? = some (.cells #[(.slice A0_0 l0_0.length c0_0), (.slice A0_1 l0_1.length c0_1), .int .i64 a0_2, .string a0_3, (.slice A0_4 l0_4.length c0_4)] 54 (0, 0))) ∧ Aside0 (Below w.heap.size w wc))
        case first =>
          have H := HC15.out
          clear HC15
          by_cases c19 : a1 < (t538.length : Int)
          · rw [if_pos c19] at H
            have c19b0 : decide (a1 < (t538.length : Int)) = true := decide_eq_true c19
            clear c19
            (first | rw [c19b0] | (simp only [i64_w, i32_w]; rw [c19b0]) | skip)
            by_cases c20 : 0 ≤ a1
            · rw [if_pos c20] at H
              have c20b0 := eq_true c20
              have c20b1 : decide (0 ≤ a1) = true := decide_eq_true c20
              clear c20
              by_cases c21 : a1 ≤ (t538.length : Int)
              · rw [if_pos c21] at H
                have c21b0 := eq_true c21
                have c21b1 : decide (a1 ≤ (t538.length : Int)) = true := decide_eq_true c21
                clear c21
                obtain ⟨y541, hy541⟩ : ∃ y_ : List Int, y_ = (t538.take (a1 : Int).toNat) := ⟨_, rfl⟩
                replace H : ((pack_Num.f kj2 y541 0).bind fun bt545 => (if bt545.2.2 = 3 then (brokerlaw03_PackTorn.j1 kj2 a1 l0_0 l0_1 a0_2 a0_3 l0_4) else (some false))) = some r := by first | (rw [hy541]; with_reducible exact H) | (have H2_ := (Option.bind_some _ _).symm.trans H; rw [hy541]; with_reducible exact H2_) | (have H2_ := (Option.bind_some _ _).symm.trans H; with_reducible exact H2_) | with_reducible exact H | (rw [hy541]; exact H) | exact H
                have Ny541 := Aside0.mk hy541
                clear hy541
                replace H := Option.bind_eq_some_iff.mp H
                obtain ⟨⟨t545, t546, t547⟩, A220, H⟩ := H
                replace H : (if t547 = 3 then (brokerlaw03_PackTorn.j1 kj2 a1 l0_0 l0_1 a0_2 a0_3 l0_4) else (some false)) = some r := H
                have A22 := Aside0.mk A220
                clear A220
                by_cases c23 : t547 = 3
                · rw [if_pos c23] at H
                  have c23b0 : (t547 == 3) = true := beq_iff_eq.mpr c23
                  have c23b1 : (t547 != 3) = false := bne_eq_false_iff_eq.mpr c23
                  clear c23
                  have H' := Aside0.mk H
                  clear H
                  have q24 : (a1 : Int) ≤ ((t538.length : Int) : Int) := of_decide_eq_true (by first | (with_reducible assumption) | assumption)
                  obtain ⟨i024, hi024, _, hsz24, _⟩ := info_parts info5
                  have hroom24 : t538.length ≤ co18 := (Kd.R_reads' HO540.out).2.1
                  have hC24 : Kd.C (Kd.int .u8) _ Ao18 t538.length t538 := (Kd.R_reads' HO540.out).2.2
                  have hcut24 := cut_to (P := Try.prog) 22 5 .i64 Try.underlying22 hi024 Ao18 t538.length co18 a1 (of_decide_eq_true (by first | (with_reducible assumption) | assumption)) q24 hroom24
                  have hr24 := Kd.C_take (m := (a1 : Int).toNat) hC24 (by omega)
                  have hy24 : y541.length = (a1 : Int).toNat := (by rw [Ny541.out, List.length_take]; omega)
                  rw [← Ny541.out] at hr24
                  rw [← hy24] at hcut24
                  have HR544 := Aside0.mk hr24
                  have HC544 := Aside0.mk (show y541.length ≤ co18 from by omega)
                  clear hr24 hC24 hroom24 hi024 hsz24
                  have KY24 := Aside0.mk hy24
                  clear hy24
                  have KL24 := Aside0.mk (show (a1 : Int).toNat ≤ t538.length from by omega)
                  replace q24 := eq_true q24
                  go_wp2_with (first | ((with_reducible refine gate_callee (f := 23) rfl ?_); refine goesL_ (some 34) rfl rfl Try.func23 (by kernel_rfl) rfl #[.slice Ao18 y541.length co18, .int .i64 0] rfl (by (try simp only [List.map_toArray, List.map_cons, List.map_nil]); first | done | rfl | (simp only [List.length_drop, List.length_take]; rfl)) ?_; (with_reducible refine (pack_Num.calls kj2 _ _ y541 0 t545 t546 t547 _ ?side1 ?side2 A22.out).mono ?_); (case side1 => repeat (first | exact (by repeat (first | (with_reducible exact HR544.out) | (with_reducible refine Kd.C_alloc ?_ _) | (with_reducible refine Kd.C_drewN ?_ _) | (with_reducible refine Kd.C_drew ?_) | exact HR544.out)) | (with_reducible refine Kd.C_alloc ?_ _) | (with_reducible refine Kd.C_drewN ?_ _) | (with_reducible refine Kd.C_drew ?_))); (case side2 => exact HC544.out); rintro e w' ⟨rfl, ⟨nd, rfl⟩⟩; refine ⟨_, rfl, ?_⟩))
                  go_meet
                  case rel => exact ⟨_, H', ⟨by have := HJ2.out; first | omega | exact Nat.le_refl _⟩, ⟨by (with_reducible repeat (first | refine blk_drewN ?_ _ | refine blk_drew ?_ | refine blk_alloc ?_ _)); exact BK535.out⟩, ⟨by repeat (first | (with_reducible first | exact HB.out | apply below_alloc | apply pw_below_drewN | apply below_drew1 | refine below_set ?_ GE535.out) | exact HB.out)⟩⟩
                · rw [if_neg c23] at H
                  have c23b0 : (t547 == 3) = false := beq_eq_false_iff_ne.mpr c23
                  have c23b1 : (t547 != 3) = true := bne_iff_ne.mpr c23
                  obtain rfl := Option.some.inj H
                  have q25 : (a1 : Int) ≤ ((t538.length : Int) : Int) := of_decide_eq_true (by first | (with_reducible assumption) | assumption)
                  obtain ⟨i025, hi025, _, hsz25, _⟩ := info_parts info5
                  have hroom25 : t538.length ≤ co18 := (Kd.R_reads' HO540.out).2.1
                  have hC25 : Kd.C (Kd.int .u8) _ Ao18 t538.length t538 := (Kd.R_reads' HO540.out).2.2
                  have hcut25 := cut_to (P := Try.prog) 22 5 .i64 Try.underlying22 hi025 Ao18 t538.length co18 a1 (of_decide_eq_true (by first | (with_reducible assumption) | assumption)) q25 hroom25
                  have hr25 := Kd.C_take (m := (a1 : Int).toNat) hC25 (by omega)
                  have hy25 : y541.length = (a1 : Int).toNat := (by rw [Ny541.out, List.length_take]; omega)
                  rw [← Ny541.out] at hr25
                  rw [← hy25] at hcut25
                  have HR544 := Aside0.mk hr25
                  have HC544 := Aside0.mk (show y541.length ≤ co18 from by omega)
                  clear hr25 hC25 hroom25 hi025 hsz25
                  have KY25 := Aside0.mk hy25
                  clear hy25
                  have KL25 := Aside0.mk (show (a1 : Int).toNat ≤ t538.length from by omega)
                  replace q25 := eq_true q25
                  go_wp2_with (first | ((with_reducible refine gate_callee (f := 23) rfl ?_); refine goesL_ (some 34) rfl rfl Try.func23 (by kernel_rfl) rfl #[.slice Ao18 y541.length co18, .int .i64 0] rfl (by (try simp only [List.map_toArray, List.map_cons, List.map_nil]); first | done | rfl | (simp only [List.length_drop, List.length_take]; rfl)) ?_; (with_reducible refine (pack_Num.calls kj2 _ _ y541 0 t545 t546 t547 _ ?side1 ?side2 A22.out).mono ?_); (case side1 => repeat (first | exact (by repeat (first | (with_reducible exact HR544.out) | (with_reducible refine Kd.C_alloc ?_ _) | (with_reducible refine Kd.C_drewN ?_ _) | (with_reducible refine Kd.C_drew ?_) | exact HR544.out)) | (with_reducible refine Kd.C_alloc ?_ _) | (with_reducible refine Kd.C_drewN ?_ _) | (with_reducible refine Kd.C_drew ?_))); (case side2 => exact HC544.out); rintro e w' ⟨rfl, ⟨nd, rfl⟩⟩; refine ⟨_, rfl, ?_⟩))
                  go_ret
                  exact ⟨by first | rfl | (simp [errW_none, errW_some] <;> rfl) | (simp [*, errW_none, errW_some] <;> rfl), by repeat (first | (with_reducible first | exact HB.out | apply below_alloc | apply pw_below_drewN | apply below_drew1 | refine below_set ?_ GE535.out) | exact HB.out)⟩
              · rw [if_neg c21] at H
                exact absurd H (by simp)
            · rw [if_neg c20] at H
              exact absurd H (by simp)
          · rw [if_neg c19] at H
            have c19b0 : decide (a1 < (t538.length : Int)) = false := decide_eq_false c19
            clear c19
            (first | rw [c19b0] | (simp only [i64_w, i32_w]; rw [c19b0]) | skip)
            have H' := Aside0.mk H
            clear H
            go_wp2
            go_meet
            case rel => exact ⟨_, H', ⟨by have := HJ2.out; first | omega | exact Nat.le_refl _⟩, ⟨by (with_reducible repeat (first | refine blk_drewN ?_ _ | refine blk_drew ?_ | refine blk_alloc ?_ _)); exact BK535.out⟩, ⟨by repeat (first | (with_reducible first | exact HB.out | apply below_alloc | apply pw_below_drewN | apply below_drew1 | refine below_set ?_ GE535.out) | exact HB.out)⟩⟩
        case rest =>
          clear HC15
          try clear c1
          try clear c2
          try clear p2
          try clear q2
          try clear c4
          try clear c6
          try clear c11
          try clear c16
          try clear c19
          try clear c19b0
          try clear c20
          try clear c20b0
          try clear c20b1
          try clear c21
          try clear c21b0
          try clear c21b1
          try clear c23
          try clear c23b0
          try clear c23b1
          try clear q24
          try clear q25
          try clear hcz16_0
          try clear hcz16_1
          try clear hcz16_2
          try clear hcz16_3
          try clear hcz16_4
          try clear hcz7_0
          try clear hcz7_1
          try clear hcz7_2
          try clear hcz7_3
          try clear hcz7_4
          try clear hcz9_0
          try clear hcz9_1
          try clear hcz9_2
          try clear hcz9_3
          try clear hcz9_4
          try clear hfz16_0
          try clear hfz16_1
          try clear hfz16_2
          try clear hfz16_3
          try clear hfz16_4
          try clear hfz7_0
          try clear hfz7_1
          try clear hfz7_2
          try clear hfz7_3
          try clear hfz7_4
          try clear hfz9_0
          try clear hfz9_1
          try clear hfz9_2
          try clear hfz9_3
          try clear hfz9_4
          try clear p2
          try clear q24
          try clear q25
          obtain ⟨kq, HA, HJ14, BK535, HB⟩ := hcut
          cases kq with
          | zero => exact absurd HA.out (by simp [brokerlaw03_PackTorn.j1])
          | succ kj14 =>
            have H := HA.out
            clear HA
            simp only [brokerlaw03_PackTorn.j1] at H
            replace H := Option.bind_eq_some_iff.mp H
            obtain ⟨t548, A260, H⟩ := H
            replace H : (if a1 < (t548.length : Int) then (if 0 ≤ a1 then (if a1 ≤ (t548.length : Int) then ((pack_Text.f kj14 (t548.take (a1 : Int).toNat) 0 400).bind fun bt555 => (if bt555.2.2 = 3 then (brokerlaw03_PackTorn.j2 kj14 a1 l0_0 l0_1 a0_2 a0_3 l0_4) else (some false))) else (none)) else (none)) else (brokerlaw03_PackTorn.j2 kj14 a1 l0_0 l0_1 a0_2 a0_3 l0_4)) = some r := H
            have A26 := Aside0.mk A260
            clear A260
            have HC27 := Aside0.mk H
            clear H
            have hcz28_0 : wc.cell? ⟨gb535, 0, none⟩ = some (.slice A0_0 l0_0.length c0_0) := (blk_cell BK535.out 0).trans rfl
            have hcz28_1 : wc.cell? ⟨gb535, 1, none⟩ = some (.slice A0_1 l0_1.length c0_1) := (blk_cell BK535.out 1).trans rfl
            have hcz28_2 : wc.cell? ⟨gb535, 2, none⟩ = some (.int .i64 a0_2) := (blk_cell BK535.out 2).trans rfl
            have hcz28_3 : wc.cell? ⟨gb535, 3, none⟩ = some (.string a0_3) := (blk_cell BK535.out 3).trans rfl
            have hcz28_4 : wc.cell? ⟨gb535, 4, none⟩ = some (.slice A0_4 l0_4.length c0_4) := (blk_cell BK535.out 4).trans rfl
            have hfz28_0 := blk_frozen BK535.out 0
            have hfz28_1 := blk_frozen BK535.out 1
            have hfz28_2 := blk_frozen BK535.out 2
            have hfz28_3 := blk_frozen BK535.out 3
            have hfz28_4 := blk_frozen BK535.out 4
            go_upto_if 46 with (first | ((with_reducible refine gate_callee (f := 26) rfl ?_); refine goesL_ (some 42) rfl rfl Try.func26 (by kernel_rfl) rfl #[.slice none 0 0, .string a0_3] rfl (by (try simp only [List.map_toArray, List.map_cons, List.map_nil]); first | done | rfl | (simp only [List.length_drop, List.length_take]; rfl)) ?_; (refine (pack_PutText.calls kj14 _ _ ([] : List Int) a0_3 t548 _ ?side1 ?side2 A26.out).mono ?_); (case side1 => exact Kd.C_nil _ _); (case side2 => exact Nat.le_refl _); rintro e w29 ⟨v549, rfl, ho0, hb⟩; refine ⟨_, rfl, ?_⟩; have n0_ := Aside0.mk (Kd.R_lower ho0 (below_size (by repeat (first | (with_reducible first | exact HB.out | apply below_alloc | apply pw_below_drewN | apply below_drew1 | refine below_set ?_ GE535.out) | exact HB.out)))); have n1_ := Aside0.mk (blk_below (g := gb535) (o := .cells #[.slice A0_0 l0_0.length c0_0, .slice A0_1 l0_1.length c0_1, .int .i64 a0_2, .string a0_3, .slice A0_4 l0_4.length c0_4] 54 (0, 0)) (by (with_reducible repeat (first | refine blk_drewN ?_ _ | refine blk_drew ?_ | refine blk_alloc ?_ _)); exact BK535.out) hb); have n2_ := Aside0.mk (below_step (by repeat (first | (with_reducible first | exact HB.out | apply below_alloc | apply pw_below_drewN | apply below_drew1 | refine below_set ?_ GE535.out) | exact HB.out)) hb); clear BK535; clear HB; have HO550 := n0_; have BK535 := n1_; have HB := n2_; clear n0_ n1_ n2_; (try clear hb); (try clear hb2); (try clear hk); (try clear hi); (try clear ho0); obtain ⟨Ao30, co30, eo30⟩ := Kd.R_slice HO550.out; subst eo30))
            (try simp only [Act.put, List.setIfInBounds_toArray, List.set_cons_zero, List.set_cons_succ])
            go_cut [] (fun wc => ∃ (kq : Nat), Aside0 (brokerlaw03_PackTorn.j2 kq a1 l0_0 l0_1 a0_2 a0_3 l0_4 = some r) ∧ Aside0 (kq ≤ kj14) ∧ Aside0 (wc.heap[gb535]? = some (.cells #[(.slice A0_0 l0_0.length c0_0), (.slice A0_1 l0_1.length c0_1), .int .i64 a0_2, .string a0_3, (.slice A0_4 l0_4.length c0_4)] 54 (0, 0))) ∧ Aside0 (Below w.heap.size w wc))
            case first =>
              have H := HC27.out
              clear HC27
              by_cases c31 : a1 < (t548.length : Int)
              · rw [if_pos c31] at H
                have c31b0 : decide (a1 < (t548.length : Int)) = true := decide_eq_true c31
                clear c31
                (first | rw [c31b0] | (simp only [i64_w, i32_w]; rw [c31b0]) | skip)
                by_cases c32 : 0 ≤ a1
                · rw [if_pos c32] at H
                  have c32b0 := eq_true c32
                  have c32b1 : decide (0 ≤ a1) = true := decide_eq_true c32
                  clear c32
                  by_cases c33 : a1 ≤ (t548.length : Int)
                  · rw [if_pos c33] at H
                    have c33b0 := eq_true c33
                    have c33b1 : decide (a1 ≤ (t548.length : Int)) = true := decide_eq_true c33
                    clear c33
                    obtain ⟨y551, hy551⟩ : ∃ y_ : List Int, y_ = (t548.take (a1 : Int).toNat) := ⟨_, rfl⟩
                    replace H : ((pack_Text.f kj14 y551 0 400).bind fun bt555 => (if bt555.2.2 = 3 then (brokerlaw03_PackTorn.j2 kj14 a1 l0_0 l0_1 a0_2 a0_3 l0_4) else (some false))) = some r := by first | (rw [hy551]; with_reducible exact H) | (have H2_ := (Option.bind_some _ _).symm.trans H; rw [hy551]; with_reducible exact H2_) | (have H2_ := (Option.bind_some _ _).symm.trans H; with_reducible exact H2_) | with_reducible exact H | (rw [hy551]; exact H) | exact H
                    have Ny551 := Aside0.mk hy551
                    clear hy551
                    replace H := Option.bind_eq_some_iff.mp H
                    obtain ⟨⟨t555, t556, t557⟩, A340, H⟩ := H
                    replace H : (if t557 = 3 then (brokerlaw03_PackTorn.j2 kj14 a1 l0_0 l0_1 a0_2 a0_3 l0_4) else (some false)) = some r := H
                    have A34 := Aside0.mk A340
                    clear A340
                    by_cases c35 : t557 = 3
                    · rw [if_pos c35] at H
                      have c35b0 : (t557 == 3) = true := beq_iff_eq.mpr c35
                      have c35b1 : (t557 != 3) = false := bne_eq_false_iff_eq.mpr c35
                      clear c35
                      have H' := Aside0.mk H
                      clear H
                      have q36 : (a1 : Int) ≤ ((t548.length : Int) : Int) := of_decide_eq_true (by first | (with_reducible assumption) | assumption)
                      obtain ⟨i036, hi036, _, hsz36, _⟩ := info_parts info5
                      have hroom36 : t548.length ≤ co30 := (Kd.R_reads' HO550.out).2.1
                      have hC36 : Kd.C (Kd.int .u8) _ Ao30 t548.length t548 := (Kd.R_reads' HO550.out).2.2
                      have hcut36 := cut_to (P := Try.prog) 22 5 .i64 Try.underlying22 hi036 Ao30 t548.length co30 a1 (of_decide_eq_true (by first | (with_reducible assumption) | assumption)) q36 hroom36
                      have hr36 := Kd.C_take (m := (a1 : Int).toNat) hC36 (by omega)
                      have hy36 : y551.length = (a1 : Int).toNat := (by rw [Ny551.out, List.length_take]; omega)
                      rw [← Ny551.out] at hr36
                      rw [← hy36] at hcut36
                      have HR554 := Aside0.mk hr36
                      have HC554 := Aside0.mk (show y551.length ≤ co30 from by omega)
                      clear hr36 hC36 hroom36 hi036 hsz36
                      have KY36 := Aside0.mk hy36
                      clear hy36
                      have KL36 := Aside0.mk (show (a1 : Int).toNat ≤ t548.length from by omega)
                      replace q36 := eq_true q36
                      go_wp2_with (first | ((with_reducible refine gate_callee (f := 43) rfl ?_); refine goesL_ (some 51) rfl rfl Try.func43 (by kernel_rfl) rfl #[.slice Ao30 y551.length co30, .int .i64 0, .int .i64 400] rfl (by (try simp only [List.map_toArray, List.map_cons, List.map_nil]); first | done | rfl | (simp only [List.length_drop, List.length_take]; rfl)) ?_; (with_reducible refine (pack_Text.calls kj14 _ _ y551 0 400 t555 t556 t557 _ ?side1 ?side2 A34.out).mono ?_); (case side1 => repeat (first | exact (by repeat (first | (with_reducible exact HR554.out) | (with_reducible refine Kd.C_alloc ?_ _) | (with_reducible refine Kd.C_drewN ?_ _) | (with_reducible refine Kd.C_drew ?_) | exact HR554.out)) | (with_reducible refine Kd.C_alloc ?_ _) | (with_reducible refine Kd.C_drewN ?_ _) | (with_reducible refine Kd.C_drew ?_))); (case side2 => exact HC554.out); rintro e w' ⟨rfl, ⟨nd, rfl⟩⟩; refine ⟨_, rfl, ?_⟩))
                      go_meet
                      case rel => exact ⟨_, H', ⟨by have := HJ2.out; have := HJ14.out; first | omega | exact Nat.le_refl _⟩, ⟨by (with_reducible repeat (first | refine blk_drewN ?_ _ | refine blk_drew ?_ | refine blk_alloc ?_ _)); exact BK535.out⟩, ⟨by repeat (first | (with_reducible first | exact HB.out | apply below_alloc | apply pw_below_drewN | apply below_drew1 | refine below_set ?_ GE535.out) | exact HB.out)⟩⟩
                    · rw [if_neg c35] at H
                      have c35b0 : (t557 == 3) = false := beq_eq_false_iff_ne.mpr c35
                      have c35b1 : (t557 != 3) = true := bne_iff_ne.mpr c35
                      obtain rfl := Option.some.inj H
                      have q37 : (a1 : Int) ≤ ((t548.length : Int) : Int) := of_decide_eq_true (by first | (with_reducible assumption) | assumption)
                      obtain ⟨i037, hi037, _, hsz37, _⟩ := info_parts info5
                      have hroom37 : t548.length ≤ co30 := (Kd.R_reads' HO550.out).2.1
                      have hC37 : Kd.C (Kd.int .u8) _ Ao30 t548.length t548 := (Kd.R_reads' HO550.out).2.2
                      have hcut37 := cut_to (P := Try.prog) 22 5 .i64 Try.underlying22 hi037 Ao30 t548.length co30 a1 (of_decide_eq_true (by first | (with_reducible assumption) | assumption)) q37 hroom37
                      have hr37 := Kd.C_take (m := (a1 : Int).toNat) hC37 (by omega)
                      have hy37 : y551.length = (a1 : Int).toNat := (by rw [Ny551.out, List.length_take]; omega)
                      rw [← Ny551.out] at hr37
                      rw [← hy37] at hcut37
                      have HR554 := Aside0.mk hr37
                      have HC554 := Aside0.mk (show y551.length ≤ co30 from by omega)
                      clear hr37 hC37 hroom37 hi037 hsz37
                      have KY37 := Aside0.mk hy37
                      clear hy37
                      have KL37 := Aside0.mk (show (a1 : Int).toNat ≤ t548.length from by omega)
                      replace q37 := eq_true q37
                      go_wp2_with (first | ((with_reducible refine gate_callee (f := 43) rfl ?_); refine goesL_ (some 51) rfl rfl Try.func43 (by kernel_rfl) rfl #[.slice Ao30 y551.length co30, .int .i64 0, .int .i64 400] rfl (by (try simp only [List.map_toArray, List.map_cons, List.map_nil]); first | done | rfl | (simp only [List.length_drop, List.length_take]; rfl)) ?_; (with_reducible refine (pack_Text.calls kj14 _ _ y551 0 400 t555 t556 t557 _ ?side1 ?side2 A34.out).mono ?_); (case side1 => repeat (first | exact (by repeat (first | (with_reducible exact HR554.out) | (with_reducible refine Kd.C_alloc ?_ _) | (with_reducible refine Kd.C_drewN ?_ _) | (with_reducible refine Kd.C_drew ?_) | exact HR554.out)) | (with_reducible refine Kd.C_alloc ?_ _) | (with_reducible refine Kd.C_drewN ?_ _) | (with_reducible refine Kd.C_drew ?_))); (case side2 => exact HC554.out); rintro e w' ⟨rfl, ⟨nd, rfl⟩⟩; refine ⟨_, rfl, ?_⟩))
                      go_ret
                      exact ⟨by first | rfl | (simp [errW_none, errW_some] <;> rfl) | (simp [*, errW_none, errW_some] <;> rfl), by repeat (first | (with_reducible first | exact HB.out | apply below_alloc | apply pw_below_drewN | apply below_drew1 | refine below_set ?_ GE535.out) | exact HB.out)⟩
                  · rw [if_neg c33] at H
                    exact absurd H (by simp)
                · rw [if_neg c32] at H
                  exact absurd H (by simp)
              · rw [if_neg c31] at H
                have c31b0 : decide (a1 < (t548.length : Int)) = false := decide_eq_false c31
                clear c31
                (first | rw [c31b0] | (simp only [i64_w, i32_w]; rw [c31b0]) | skip)
                have H' := Aside0.mk H
                clear H
                go_wp2
                go_meet
                case rel => exact ⟨_, H', ⟨by have := HJ2.out; have := HJ14.out; first | omega | exact Nat.le_refl _⟩, ⟨by (with_reducible repeat (first | refine blk_drewN ?_ _ | refine blk_drew ?_ | refine blk_alloc ?_ _)); exact BK535.out⟩, ⟨by repeat (first | (with_reducible first | exact HB.out | apply below_alloc | apply pw_below_drewN | apply below_drew1 | refine below_set ?_ GE535.out) | exact HB.out)⟩⟩
            case rest =>
              clear HC27
              try clear c1
              try clear c2
              try clear p2
              try clear q2
              try clear c3
              try clear q3
              try clear c4
              try clear c6
              try clear c11
              try clear c16
              try clear c19
              try clear c19b0
              try clear c20
              try clear c20b0
              try clear c20b1
              try clear c21
              try clear c21b0
              try clear c21b1
              try clear c23
              try clear c23b0
              try clear c23b1
              try clear q24
              try clear q25
              try clear c26
              try clear c31
              try clear c31b0
              try clear c32
              try clear c32b0
              try clear c32b1
              try clear c33
              try clear c33b0
              try clear c33b1
              try clear c35
              try clear c35b0
              try clear c35b1
              try clear q36
              try clear q37
              try clear hcz16_0
              try clear hcz16_1
              try clear hcz16_2
              try clear hcz16_3
              try clear hcz16_4
              try clear hcz28_0
              try clear hcz28_1
              try clear hcz28_2
              try clear hcz28_3
              try clear hcz28_4
              try clear hcz7_0
              try clear hcz7_1
              try clear hcz7_2
              try clear hcz7_3
              try clear hcz7_4
              try clear hcz9_0
              try clear hcz9_1
              try clear hcz9_2
              try clear hcz9_3
              try clear hcz9_4
              try clear hfz16_0
              try clear hfz16_1
              try clear hfz16_2
              try clear hfz16_3
              try clear hfz16_4
              try clear hfz28_0
              try clear hfz28_1
              try clear hfz28_2
              try clear hfz28_3
              try clear hfz28_4
              try clear hfz7_0
              try clear hfz7_1
              try clear hfz7_2
              try clear hfz7_3
              try clear hfz7_4
              try clear hfz9_0
              try clear hfz9_1
              try clear hfz9_2
              try clear hfz9_3
              try clear hfz9_4
              try clear p2
              try clear q2
              try clear q24
              try clear q25
              try clear q36
              try clear q37
              obtain ⟨kq, HA, HJ26, BK535, HB⟩ := hcut
              cases kq with
              | zero => exact absurd HA.out (by simp [brokerlaw03_PackTorn.j2])
              | succ kj26 =>
                have H := HA.out
                clear HA
                simp only [brokerlaw03_PackTorn.j2] at H
                replace H := Option.bind_eq_some_iff.mp H
                obtain ⟨t558, A380, H⟩ := H
                replace H : (if a1 < (t558.length : Int) then (if 0 ≤ a1 then (if a1 ≤ (t558.length : Int) then ((pack_Texts.f kj26 (t558.take (a1 : Int).toNat) 0 400).bind fun bt565 => (if bt565.2.2 = 3 then ((brokerlaw03_awake.f kj26).bind fun t570 => (some t570)) else (some false))) else (none)) else (none)) else ((brokerlaw03_awake.f kj26).bind fun t571 => (some t571))) = some r := H
                have A38 := Aside0.mk A380
                clear A380
                by_cases c39 : a1 < (t558.length : Int)
                · rw [if_pos c39] at H
                  have c39b0 : decide (a1 < (t558.length : Int)) = true := decide_eq_true c39
                  clear c39
                  by_cases c40 : 0 ≤ a1
                  · rw [if_pos c40] at H
                    have c40b0 := eq_true c40
                    have c40b1 : decide (0 ≤ a1) = true := decide_eq_true c40
                    clear c40
                    by_cases c41 : a1 ≤ (t558.length : Int)
                    · rw [if_pos c41] at H
                      have c41b0 := eq_true c41
                      have c41b1 : decide (a1 ≤ (t558.length : Int)) = true := decide_eq_true c41
                      clear c41
                      obtain ⟨y561, hy561⟩ : ∃ y_ : List Int, y_ = (t558.take (a1 : Int).toNat) := ⟨_, rfl⟩
                      replace H : ((pack_Texts.f kj26 y561 0 400).bind fun bt565 => (if bt565.2.2 = 3 then ((brokerlaw03_awake.f kj26).bind fun t570 => (some t570)) else (some false))) = some r := by first | (rw [hy561]; with_reducible exact H) | (have H2_ := (Option.bind_some _ _).symm.trans H; rw [hy561]; with_reducible exact H2_) | (have H2_ := (Option.bind_some _ _).symm.trans H; with_reducible exact H2_) | with_reducible exact H | (rw [hy561]; exact H) | exact H
                      have Ny561 := Aside0.mk hy561
                      clear hy561
                      replace H := Option.bind_eq_some_iff.mp H
                      obtain ⟨⟨t565, t566, t567⟩, A420, H⟩ := H
                      replace H : (if t567 = 3 then ((brokerlaw03_awake.f kj26).bind fun t570 => (some t570)) else (some false)) = some r := H
                      have A42 := Aside0.mk A420
                      clear A420
                      by_cases c43 : t567 = 3
                      · rw [if_pos c43] at H
                        have c43b0 : (t567 == 3) = true := beq_iff_eq.mpr c43
                        have c43b1 : (t567 != 3) = false := bne_eq_false_iff_eq.mpr c43
                        clear c43
                        replace H := Option.bind_eq_some_iff.mp H
                        obtain ⟨t570, A440, H⟩ := H
                        replace H : (some t570) = some r := H
                        have A44 := Aside0.mk A440
                        clear A440
                        obtain rfl := Option.some.inj H
                        have hcz45_0 : wc.cell? ⟨gb535, 0, none⟩ = some (.slice A0_0 l0_0.length c0_0) := (blk_cell BK535.out 0).trans rfl
                        have hcz45_1 : wc.cell? ⟨gb535, 1, none⟩ = some (.slice A0_1 l0_1.length c0_1) := (blk_cell BK535.out 1).trans rfl
                        have hcz45_2 : wc.cell? ⟨gb535, 2, none⟩ = some (.int .i64 a0_2) := (blk_cell BK535.out 2).trans rfl
                        have hcz45_3 : wc.cell? ⟨gb535, 3, none⟩ = some (.string a0_3) := (blk_cell BK535.out 3).trans rfl
                        have hcz45_4 : wc.cell? ⟨gb535, 4, none⟩ = some (.slice A0_4 l0_4.length c0_4) := (blk_cell BK535.out 4).trans rfl
                        have hfz45_0 := blk_frozen BK535.out 0
                        have hfz45_1 := blk_frozen BK535.out 1
                        have hfz45_2 := blk_frozen BK535.out 2
                        have hfz45_3 := blk_frozen BK535.out 3
                        have hfz45_4 := blk_frozen BK535.out 4
                        go_wp2_with (first | ((with_reducible refine gate_callee (f := 28) rfl ?_); refine goesL_ (some 59) rfl rfl Try.func28 (by kernel_rfl) rfl #[.slice none 0 0, .slice A0_4 l0_4.length c0_4] rfl (by (try simp only [List.map_toArray, List.map_cons, List.map_nil]); first | done | rfl | (simp only [List.length_drop, List.length_take]; rfl)) ?_; (refine (pack_PutTexts.calls kj26 _ _ ([] : List Int) _ _ l0_4 t558 _ ?side1 ?side2 ?side3 ?side4 A38.out).mono ?_); (case side1 => exact Kd.C_nil _ _); (case side2 => exact Nat.le_refl _); (case side3 => repeat (first | exact (Kd.C_below HR0_4.out HB.out) | (with_reducible refine Kd.C_alloc ?_ _) | (with_reducible refine Kd.C_drewN ?_ _) | (with_reducible refine Kd.C_drew ?_))); (case side4 => exact HC0_4.out); rintro e w46 ⟨v559, rfl, ho0, hb⟩; refine ⟨_, rfl, ?_⟩; have n0_ := Aside0.mk (Kd.R_lower ho0 (below_size (by repeat (first | (with_reducible first | exact HB.out | apply below_alloc | apply pw_below_drewN | apply below_drew1 | refine below_set ?_ GE535.out) | exact HB.out)))); have n1_ := Aside0.mk (blk_below (g := gb535) (o := .cells #[.slice A0_0 l0_0.length c0_0, .slice A0_1 l0_1.length c0_1, .int .i64 a0_2, .string a0_3, .slice A0_4 l0_4.length c0_4] 54 (0, 0)) (by (with_reducible repeat (first | refine blk_drewN ?_ _ | refine blk_drew ?_ | refine blk_alloc ?_ _)); exact BK535.out) hb); have n2_ := Aside0.mk (below_step (by repeat (first | (with_reducible first | exact HB.out | apply below_alloc | apply pw_below_drewN | apply below_drew1 | refine below_set ?_ GE535.out) | exact HB.out)) hb); clear BK535; clear HB; have HO560 := n0_; have BK535 := n1_; have HB := n2_; clear n0_ n1_ n2_; (try clear hb); (try clear hb2); (try clear hk); (try clear hi); (try clear ho0); obtain ⟨Ao47, co47, eo47⟩ := Kd.R_slice HO560.out; subst eo47; have q48 : (a1 : Int) ≤ ((t558.length : Int) : Int) := of_decide_eq_true (by first | (with_reducible assumption) | assumption); obtain ⟨i048, hi048, _, hsz48, _⟩ := info_parts info5; have hroom48 : t558.length ≤ co47 := (Kd.R_reads' HO560.out).2.1; have hC48 : Kd.C (Kd.int .u8) _ Ao47 t558.length t558 := (Kd.R_reads' HO560.out).2.2; have hcut48 := cut_to (P := Try.prog) 22 5 .i64 Try.underlying22 hi048 Ao47 t558.length co47 a1 (of_decide_eq_true (by first | (with_reducible assumption) | assumption)) q48 hroom48; have hr48 := Kd.C_take (m := (a1 : Int).toNat) hC48 (by omega); have hy48 : y561.length = (a1 : Int).toNat := (by rw [Ny561.out, List.length_take]; omega); rw [← Ny561.out] at hr48; rw [← hy48] at hcut48; have HR564 := Aside0.mk hr48; have HC564 := Aside0.mk (show y561.length ≤ co47 from by omega); clear hr48 hC48 hroom48 hi048 hsz48; have KY48 := Aside0.mk hy48; clear hy48; have KL48 := Aside0.mk (show (a1 : Int).toNat ≤ t558.length from by omega); replace q48 := eq_true q48) | ((with_reducible refine gate_callee (f := 45) rfl ?_); refine goesL_ (some 68) rfl rfl Try.func45 (by kernel_rfl) rfl #[.slice Ao47 y561.length co47, .int .i64 0, .int .i64 400] rfl (by (try simp only [List.map_toArray, List.map_cons, List.map_nil]); first | done | rfl | (simp only [List.length_drop, List.length_take]; rfl)) ?_; (with_reducible refine (pack_Texts.calls kj26 _ _ y561 0 400 t565 t566 t567 _ ?side1 ?side2 A42.out).mono ?_); (case side1 => repeat (first | exact (by repeat (first | (with_reducible exact HR564.out) | (with_reducible refine Kd.C_alloc ?_ _) | (with_reducible refine Kd.C_drewN ?_ _) | (with_reducible refine Kd.C_drew ?_) | exact HR564.out)) | (with_reducible refine Kd.C_alloc ?_ _) | (with_reducible refine Kd.C_drewN ?_ _) | (with_reducible refine Kd.C_drew ?_))); (case side2 => exact HC564.out); rintro e w49 ⟨v568, rfl, ho0, hb⟩; refine ⟨_, rfl, ?_⟩; have n0_ := Aside0.mk (Kd.R_below (by (with_reducible repeat (first | apply Kd.R_alloc | apply Kd.R_drewN | apply Kd.R_drew)); exact HO560.out) hb); have n1_ := Aside0.mk (Kd.R_lower ho0 (below_size (by repeat (first | (with_reducible first | exact HB.out | apply below_alloc | apply pw_below_drewN | apply below_drew1 | refine below_set ?_ GE535.out) | exact HB.out)))); have n2_ := Aside0.mk (blk_below (g := gb535) (o := .cells #[.slice A0_0 l0_0.length c0_0, .slice A0_1 l0_1.length c0_1, .int .i64 a0_2, .string a0_3, .slice A0_4 l0_4.length c0_4] 54 (0, 0)) (by (with_reducible repeat (first | refine blk_drewN ?_ _ | refine blk_drew ?_ | refine blk_alloc ?_ _)); exact BK535.out) hb); have n3_ := Aside0.mk (Kd.C_below (by repeat (first | (with_reducible exact HR564.out) | (with_reducible refine Kd.C_alloc ?_ _) | (with_reducible refine Kd.C_drewN ?_ _) | (with_reducible refine Kd.C_drew ?_) | exact HR564.out)) hb); have n4_ := Aside0.mk (below_step (by repeat (first | (with_reducible first | exact HB.out | apply below_alloc | apply pw_below_drewN | apply below_drew1 | refine below_set ?_ GE535.out) | exact HB.out)) hb); clear HO560; clear BK535; clear HR564; clear HB; have HO560 := n0_; have HO569 := n1_; have BK535 := n2_; have HR564 := n3_; have HB := n4_; clear n0_ n1_ n2_ n3_ n4_; (try clear hb); (try clear hb2); (try clear hk); (try clear hi); (try clear ho0)) | ((with_reducible refine gate_callee (f := 19) rfl ?_); refine goesL_ (some 74) rfl rfl Try.func19 (by kernel_rfl) rfl #[] rfl (by (try simp only [List.map_toArray, List.map_cons, List.map_nil]); first | done | rfl | (simp only [List.length_drop, List.length_take]; rfl)) ?_; (with_reducible refine (brokerlaw03_awake.calls kj26  t570 _ A44.out).mono ?_); rintro e w50 ⟨rfl, hb⟩; refine ⟨_, rfl, ?_⟩; have n0_ := Aside0.mk (Kd.R_below (by (with_reducible repeat (first | apply Kd.R_alloc | apply Kd.R_drewN | apply Kd.R_drew)); exact HO560.out) hb); have n1_ := Aside0.mk (Kd.R_below (by (with_reducible repeat (first | apply Kd.R_alloc | apply Kd.R_drewN | apply Kd.R_drew)); exact HO569.out) hb); have n2_ := Aside0.mk (blk_below (g := gb535) (o := .cells #[.slice A0_0 l0_0.length c0_0, .slice A0_1 l0_1.length c0_1, .int .i64 a0_2, .string a0_3, .slice A0_4 l0_4.length c0_4] 54 (0, 0)) (by (with_reducible repeat (first | refine blk_drewN ?_ _ | refine blk_drew ?_ | refine blk_alloc ?_ _)); exact BK535.out) hb); have n3_ := Aside0.mk (Kd.C_below (by repeat (first | (with_reducible exact HR564.out) | (with_reducible refine Kd.C_alloc ?_ _) | (with_reducible refine Kd.C_drewN ?_ _) | (with_reducible refine Kd.C_drew ?_) | exact HR564.out)) hb); have n4_ := Aside0.mk (below_step (by repeat (first | (with_reducible first | exact HB.out | apply below_alloc | apply pw_below_drewN | apply below_drew1 | refine below_set ?_ GE535.out) | exact HB.out)) hb); clear HO560; clear HO569; clear BK535; clear HR564; clear HB; have HO560 := n0_; have HO569 := n1_; have BK535 := n2_; have HR564 := n3_; have HB := n4_; clear n0_ n1_ n2_ n3_ n4_; (try clear hb); (try clear hb2); (try clear hk); (try clear hi)))
                        go_ret
                        exact ⟨by first | rfl | (simp [errW_none, errW_some] <;> rfl) | (simp [*, errW_none, errW_some] <;> rfl), by repeat (first | (with_reducible first | exact HB.out | apply below_alloc | apply pw_below_drewN | apply below_drew1 | refine below_set ?_ GE535.out) | exact HB.out)⟩
                      · rw [if_neg c43] at H
                        have c43b0 : (t567 == 3) = false := beq_eq_false_iff_ne.mpr c43
                        have c43b1 : (t567 != 3) = true := bne_iff_ne.mpr c43
                        obtain rfl := Option.some.inj H
                        have hcz51_0 : wc.cell? ⟨gb535, 0, none⟩ = some (.slice A0_0 l0_0.length c0_0) := (blk_cell BK535.out 0).trans rfl
                        have hcz51_1 : wc.cell? ⟨gb535, 1, none⟩ = some (.slice A0_1 l0_1.length c0_1) := (blk_cell BK535.out 1).trans rfl
                        have hcz51_2 : wc.cell? ⟨gb535, 2, none⟩ = some (.int .i64 a0_2) := (blk_cell BK535.out 2).trans rfl
                        have hcz51_3 : wc.cell? ⟨gb535, 3, none⟩ = some (.string a0_3) := (blk_cell BK535.out 3).trans rfl
                        have hcz51_4 : wc.cell? ⟨gb535, 4, none⟩ = some (.slice A0_4 l0_4.length c0_4) := (blk_cell BK535.out 4).trans rfl
                        have hfz51_0 := blk_frozen BK535.out 0
                        have hfz51_1 := blk_frozen BK535.out 1
                        have hfz51_2 := blk_frozen BK535.out 2
                        have hfz51_3 := blk_frozen BK535.out 3
                        have hfz51_4 := blk_frozen BK535.out 4
                        go_wp2_with (first | ((with_reducible refine gate_callee (f := 28) rfl ?_); refine goesL_ (some 59) rfl rfl Try.func28 (by kernel_rfl) rfl #[.slice none 0 0, .slice A0_4 l0_4.length c0_4] rfl (by (try simp only [List.map_toArray, List.map_cons, List.map_nil]); first | done | rfl | (simp only [List.length_drop, List.length_take]; rfl)) ?_; (refine (pack_PutTexts.calls kj26 _ _ ([] : List Int) _ _ l0_4 t558 _ ?side1 ?side2 ?side3 ?side4 A38.out).mono ?_); (case side1 => exact Kd.C_nil _ _); (case side2 => exact Nat.le_refl _); (case side3 => repeat (first | exact (Kd.C_below HR0_4.out HB.out) | (with_reducible refine Kd.C_alloc ?_ _) | (with_reducible refine Kd.C_drewN ?_ _) | (with_reducible refine Kd.C_drew ?_))); (case side4 => exact HC0_4.out); rintro e w52 ⟨v559, rfl, ho0, hb⟩; refine ⟨_, rfl, ?_⟩; have n0_ := Aside0.mk (Kd.R_lower ho0 (below_size (by repeat (first | (with_reducible first | exact HB.out | apply below_alloc | apply pw_below_drewN | apply below_drew1 | refine below_set ?_ GE535.out) | exact HB.out)))); have n1_ := Aside0.mk (blk_below (g := gb535) (o := .cells #[.slice A0_0 l0_0.length c0_0, .slice A0_1 l0_1.length c0_1, .int .i64 a0_2, .string a0_3, .slice A0_4 l0_4.length c0_4] 54 (0, 0)) (by (with_reducible repeat (first | refine blk_drewN ?_ _ | refine blk_drew ?_ | refine blk_alloc ?_ _)); exact BK535.out) hb); have n2_ := Aside0.mk (below_step (by repeat (first | (with_reducible first | exact HB.out | apply below_alloc | apply pw_below_drewN | apply below_drew1 | refine below_set ?_ GE535.out) | exact HB.out)) hb); clear BK535; clear HB; have HO560 := n0_; have BK535 := n1_; have HB := n2_; clear n0_ n1_ n2_; (try clear hb); (try clear hb2); (try clear hk); (try clear hi); (try clear ho0); obtain ⟨Ao53, co53, eo53⟩ := Kd.R_slice HO560.out; subst eo53; have q54 : (a1 : Int) ≤ ((t558.length : Int) : Int) := of_decide_eq_true (by first | (with_reducible assumption) | assumption); obtain ⟨i054, hi054, _, hsz54, _⟩ := info_parts info5; have hroom54 : t558.length ≤ co53 := (Kd.R_reads' HO560.out).2.1; have hC54 : Kd.C (Kd.int .u8) _ Ao53 t558.length t558 := (Kd.R_reads' HO560.out).2.2; have hcut54 := cut_to (P := Try.prog) 22 5 .i64 Try.underlying22 hi054 Ao53 t558.length co53 a1 (of_decide_eq_true (by first | (with_reducible assumption) | assumption)) q54 hroom54; have hr54 := Kd.C_take (m := (a1 : Int).toNat) hC54 (by omega); have hy54 : y561.length = (a1 : Int).toNat := (by rw [Ny561.out, List.length_take]; omega); rw [← Ny561.out] at hr54; rw [← hy54] at hcut54; have HR564 := Aside0.mk hr54; have HC564 := Aside0.mk (show y561.length ≤ co53 from by omega); clear hr54 hC54 hroom54 hi054 hsz54; have KY54 := Aside0.mk hy54; clear hy54; have KL54 := Aside0.mk (show (a1 : Int).toNat ≤ t558.length from by omega); replace q54 := eq_true q54) | ((with_reducible refine gate_callee (f := 45) rfl ?_); refine goesL_ (some 68) rfl rfl Try.func45 (by kernel_rfl) rfl #[.slice Ao53 y561.length co53, .int .i64 0, .int .i64 400] rfl (by (try simp only [List.map_toArray, List.map_cons, List.map_nil]); first | done | rfl | (simp only [List.length_drop, List.length_take]; rfl)) ?_; (with_reducible refine (pack_Texts.calls kj26 _ _ y561 0 400 t565 t566 t567 _ ?side1 ?side2 A42.out).mono ?_); (case side1 => repeat (first | exact (by repeat (first | (with_reducible exact HR564.out) | (with_reducible refine Kd.C_alloc ?_ _) | (with_reducible refine Kd.C_drewN ?_ _) | (with_reducible refine Kd.C_drew ?_) | exact HR564.out)) | (with_reducible refine Kd.C_alloc ?_ _) | (with_reducible refine Kd.C_drewN ?_ _) | (with_reducible refine Kd.C_drew ?_))); (case side2 => exact HC564.out); rintro e w55 ⟨v568, rfl, ho0, hb⟩; refine ⟨_, rfl, ?_⟩; have n0_ := Aside0.mk (Kd.R_below (by (with_reducible repeat (first | apply Kd.R_alloc | apply Kd.R_drewN | apply Kd.R_drew)); exact HO560.out) hb); have n1_ := Aside0.mk (Kd.R_lower ho0 (below_size (by repeat (first | (with_reducible first | exact HB.out | apply below_alloc | apply pw_below_drewN | apply below_drew1 | refine below_set ?_ GE535.out) | exact HB.out)))); have n2_ := Aside0.mk (blk_below (g := gb535) (o := .cells #[.slice A0_0 l0_0.length c0_0, .slice A0_1 l0_1.length c0_1, .int .i64 a0_2, .string a0_3, .slice A0_4 l0_4.length c0_4] 54 (0, 0)) (by (with_reducible repeat (first | refine blk_drewN ?_ _ | refine blk_drew ?_ | refine blk_alloc ?_ _)); exact BK535.out) hb); have n3_ := Aside0.mk (Kd.C_below (by repeat (first | (with_reducible exact HR564.out) | (with_reducible refine Kd.C_alloc ?_ _) | (with_reducible refine Kd.C_drewN ?_ _) | (with_reducible refine Kd.C_drew ?_) | exact HR564.out)) hb); have n4_ := Aside0.mk (below_step (by repeat (first | (with_reducible first | exact HB.out | apply below_alloc | apply pw_below_drewN | apply below_drew1 | refine below_set ?_ GE535.out) | exact HB.out)) hb); clear HO560; clear BK535; clear HR564; clear HB; have HO560 := n0_; have HO569 := n1_; have BK535 := n2_; have HR564 := n3_; have HB := n4_; clear n0_ n1_ n2_ n3_ n4_; (try clear hb); (try clear hb2); (try clear hk); (try clear hi); (try clear ho0)))
                        go_ret
                        exact ⟨by first | rfl | (simp [errW_none, errW_some] <;> rfl) | (simp [*, errW_none, errW_some] <;> rfl), by repeat (first | (with_reducible first | exact HB.out | apply below_alloc | apply pw_below_drewN | apply below_drew1 | refine below_set ?_ GE535.out) | exact HB.out)⟩
                    · rw [if_neg c41] at H
                      exact absurd H (by simp)
                  · rw [if_neg c40] at H
                    exact absurd H (by simp)
                · rw [if_neg c39] at H
                  have c39b0 : decide (a1 < (t558.length : Int)) = false := decide_eq_false c39
                  clear c39
                  replace H := Option.bind_eq_some_iff.mp H
                  obtain ⟨t571, A560, H⟩ := H
                  replace H : (some t571) = some r := H
                  have A56 := Aside0.mk A560
                  clear A560
                  obtain rfl := Option.some.inj H
                  have hcz57_0 : wc.cell? ⟨gb535, 0, none⟩ = some (.slice A0_0 l0_0.length c0_0) := (blk_cell BK535.out 0).trans rfl
                  have hcz57_1 : wc.cell? ⟨gb535, 1, none⟩ = some (.slice A0_1 l0_1.length c0_1) := (blk_cell BK535.out 1).trans rfl
                  have hcz57_2 : wc.cell? ⟨gb535, 2, none⟩ = some (.int .i64 a0_2) := (blk_cell BK535.out 2).trans rfl
                  have hcz57_3 : wc.cell? ⟨gb535, 3, none⟩ = some (.string a0_3) := (blk_cell BK535.out 3).trans rfl
                  have hcz57_4 : wc.cell? ⟨gb535, 4, none⟩ = some (.slice A0_4 l0_4.length c0_4) := (blk_cell BK535.out 4).trans rfl
                  have hfz57_0 := blk_frozen BK535.out 0
                  have hfz57_1 := blk_frozen BK535.out 1
                  have hfz57_2 := blk_frozen BK535.out 2
                  have hfz57_3 := blk_frozen BK535.out 3
                  have hfz57_4 := blk_frozen BK535.out 4
                  go_wp2_with (first | ((with_reducible refine gate_callee (f := 28) rfl ?_); refine goesL_ (some 59) rfl rfl Try.func28 (by kernel_rfl) rfl #[.slice none 0 0, .slice A0_4 l0_4.length c0_4] rfl (by (try simp only [List.map_toArray, List.map_cons, List.map_nil]); first | done | rfl | (simp only [List.length_drop, List.length_take]; rfl)) ?_; (refine (pack_PutTexts.calls kj26 _ _ ([] : List Int) _ _ l0_4 t558 _ ?side1 ?side2 ?side3 ?side4 A38.out).mono ?_); (case side1 => exact Kd.C_nil _ _); (case side2 => exact Nat.le_refl _); (case side3 => repeat (first | exact (Kd.C_below HR0_4.out HB.out) | (with_reducible refine Kd.C_alloc ?_ _) | (with_reducible refine Kd.C_drewN ?_ _) | (with_reducible refine Kd.C_drew ?_))); (case side4 => exact HC0_4.out); rintro e w58 ⟨v559, rfl, ho0, hb⟩; refine ⟨_, rfl, ?_⟩; have n0_ := Aside0.mk (Kd.R_lower ho0 (below_size (by repeat (first | (with_reducible first | exact HB.out | apply below_alloc | apply pw_below_drewN | apply below_drew1 | refine below_set ?_ GE535.out) | exact HB.out)))); have n1_ := Aside0.mk (blk_below (g := gb535) (o := .cells #[.slice A0_0 l0_0.length c0_0, .slice A0_1 l0_1.length c0_1, .int .i64 a0_2, .string a0_3, .slice A0_4 l0_4.length c0_4] 54 (0, 0)) (by (with_reducible repeat (first | refine blk_drewN ?_ _ | refine blk_drew ?_ | refine blk_alloc ?_ _)); exact BK535.out) hb); have n2_ := Aside0.mk (below_step (by repeat (first | (with_reducible first | exact HB.out | apply below_alloc | apply pw_below_drewN | apply below_drew1 | refine below_set ?_ GE535.out) | exact HB.out)) hb); clear BK535; clear HB; have HO560 := n0_; have BK535 := n1_; have HB := n2_; clear n0_ n1_ n2_; (try clear hb); (try clear hb2); (try clear hk); (try clear hi); (try clear ho0); obtain ⟨Ao59, co59, eo59⟩ := Kd.R_slice HO560.out; subst eo59) | ((with_reducible refine gate_callee (f := 19) rfl ?_); refine goesL_ (some 74) rfl rfl Try.func19 (by kernel_rfl) rfl #[] rfl (by (try simp only [List.map_toArray, List.map_cons, List.map_nil]); first | done | rfl | (simp only [List.length_drop, List.length_take]; rfl)) ?_; (with_reducible refine (brokerlaw03_awake.calls kj26  t571 _ A56.out).mono ?_); rintro e w60 ⟨rfl, hb⟩; refine ⟨_, rfl, ?_⟩; have n0_ := Aside0.mk (Kd.R_below (by (with_reducible repeat (first | apply Kd.R_alloc | apply Kd.R_drewN | apply Kd.R_drew)); exact HO560.out) hb); have n1_ := Aside0.mk (blk_below (g := gb535) (o := .cells #[.slice A0_0 l0_0.length c0_0, .slice A0_1 l0_1.length c0_1, .int .i64 a0_2, .string a0_3, .slice A0_4 l0_4.length c0_4] 54 (0, 0)) (by (with_reducible repeat (first | refine blk_drewN ?_ _ | refine blk_drew ?_ | refine blk_alloc ?_ _)); exact BK535.out) hb); have n2_ := Aside0.mk (below_step (by repeat (first | (with_reducible first | exact HB.out | apply below_alloc | apply pw_below_drewN | apply below_drew1 | refine below_set ?_ GE535.out) | exact HB.out)) hb); clear HO560; clear BK535; clear HB; have HO560 := n0_; have BK535 := n1_; have HB := n2_; clear n0_ n1_ n2_; (try clear hb); (try clear hb2); (try clear hk); (try clear hi)))
                  go_ret
                  exact ⟨by first | rfl | (simp [errW_none, errW_some] <;> rfl) | (simp [*, errW_none, errW_some] <;> rfl), by repeat (first | (with_reducible first | exact HB.out | apply below_alloc | apply pw_below_drewN | apply below_drew1 | refine below_set ?_ GE535.out) | exact HB.out)⟩

end Go.Proofs.Ytkklehfcadkikaa.J
