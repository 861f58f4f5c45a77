/- Lean functions that compute what the Go functions named below compute; each theorem '.calls': if its Lean function has an answer, the Go function returns it. -/
import Derived.Test.YtkkelbakadbbhaaYx0
import Derived.Test.YtkkelbakadbbhaaH
import Derived.Test.YtkkelbakadbbhaaYref312
namespace Go.Proofs.Ytkkelbakadbbhaa.J
open Go.RowKit Go.Proofs.YtkkelbakadbbhaaW.PrintWords Go.Proofs.YtkkelbakadbbhaaW.PrintLast Go.Proofs.YtkkelbakadbbhaaW.PrintMore
attribute [local go_sem] max2_int min2_int max_two min_two max_three min_three max_four min_four   -- for this text's walks alone
set_option linter.unusedVariables false
set_option linter.unusedSimpArgs false

/-! ### brokerref32_Check: function 49 -/
mutual
def brokerref32_Check.j0 : Nat → Bool → Int → Int → List Int → Option (Int)
 | 0, _, _, _, _ => none
 | k + 1, x15, x454000, x454001, x454002 => if x15 = true then (some 1) else (if (x454002.length : Int) > 65536 then (some 5) else (brokerref32_Check.l0 k 0 0 x454000 x454001 x454002))
def brokerref32_Check.l0 : Nat → Int → Int → Int → Int → List Int → Option (Int)
 | 0, _, _, _, _, _ => none
 | k + 1, x3, x4, x454000, x454001, x454002 => if x3 < (x454002.length : Int) then ((brokerref31_Decode.f k x454002 x3).bind fun bt454 => (if bt454.2.2.2.2.2 = 0 then (if bt454.1 = (wrap64 (x454000 + x4)) then (brokerref32_Check.l0 k bt454.2.2.2.2.1 (wrap64 (x4 + 1)) x454000 x454001 x454002) else (some 22)) else (some bt454.2.2.2.2.2))) else (if x454001 = (wrap64 (x454000 + x4)) then (some 0) else (some 1))
end
def brokerref32_Check.f (k : Nat) (a0_0 : Int) (a0_1 : Int) (l0_2 : List Int) : Option (Int) := if a0_0 < 0 then (brokerref32_Check.j0 k true a0_0 a0_1 l0_2) else (brokerref32_Check.j0 k (decide (a0_0 > 1099511627776)) a0_0 a0_1 l0_2)
theorem brokerref32_Check.mono_l : ∀ k, (∀ y0 y1 y2 y3, LeO (brokerref32_Check.j0 k y0 y1 y2 y3) (brokerref32_Check.j0 (k + 1) y0 y1 y2 y3)) ∧ (∀ y0 y1 y2 y3 y4, LeO (brokerref32_Check.l0 k y0 y1 y2 y3 y4) (brokerref32_Check.l0 (k + 1) y0 y1 y2 y3 y4))
 | 0 => ⟨fun _ _ _ _ r h => by simp [brokerref32_Check.j0] at h, fun _ _ _ _ _ r h => by simp [brokerref32_Check.l0] at h⟩
 | k + 1 => by
  obtain ⟨ih0, ih1⟩ := brokerref32_Check.mono_l k
  refine ⟨?_, ?_⟩
  ·
   intro y0 y1 y2 y3
   unfold brokerref32_Check.j0
   repeat' first
   | (with_reducible exact ih0 _ _ _ _)
   | (with_reducible exact ih1 _ _ _ _ _)
   | (with_reducible exact brokerref31_Decode.mono _ _ _)
   | (with_reducible exact LeO.refl _)
   | (with_reducible exact LeO.none _)
   | (with_reducible refine LeO.ite ?_ ?_)
   | (with_reducible refine LeO.bind ?_ (fun _ => ?_))
   | exact ih0 _ _ _ _
   | exact ih1 _ _ _ _ _
   | exact brokerref31_Decode.mono _ _ _
   | exact LeO.none _
   | refine LeO.ite ?_ ?_
   | refine LeO.bind ?_ (fun _ => ?_)
  ·
   intro y0 y1 y2 y3 y4
   unfold brokerref32_Check.l0
   repeat' first
   | (with_reducible exact ih0 _ _ _ _)
   | (with_reducible exact ih1 _ _ _ _ _)
   | (with_reducible exact brokerref31_Decode.mono _ _ _)
   | (with_reducible exact LeO.refl _)
   | (with_reducible exact LeO.none _)
   | (with_reducible refine LeO.ite ?_ ?_)
   | (with_reducible refine LeO.bind ?_ (fun _ => ?_))
   | exact ih0 _ _ _ _
   | exact ih1 _ _ _ _ _
   | exact brokerref31_Decode.mono _ _ _
   | exact LeO.none _
   | refine LeO.ite ?_ ?_
   | refine LeO.bind ?_ (fun _ => ?_)
theorem brokerref32_Check.mono : ∀ a0 a1 a2 k, LeO (brokerref32_Check.f k a0 a1 a2) (brokerref32_Check.f (k + 1) a0 a1 a2) := by
 intro a0 a1 a2 k
 obtain ⟨ih0, ih1⟩ := brokerref32_Check.mono_l k
 unfold brokerref32_Check.f
 repeat' first
  | (with_reducible exact ih0 _ _ _ _)
  | (with_reducible exact ih1 _ _ _ _ _)
  | (with_reducible exact brokerref31_Decode.mono _ _ _)
  | (with_reducible exact LeO.refl _)
  | (with_reducible exact LeO.none _)
  | (with_reducible refine LeO.ite ?_ ?_)
  | (with_reducible refine LeO.bind ?_ (fun _ => ?_))
  | exact ih0 _ _ _ _
  | exact ih1 _ _ _ _ _
  | exact brokerref31_Decode.mono _ _ _
  | exact LeO.none _
  | refine LeO.ite ?_ ?_
  | refine LeO.bind ?_ (fun _ => ?_)
set_option maxHeartbeats 8000000 in
set_option maxRecDepth 100000 in
theorem brokerref32_Check.calls (k : Nat) (a0_0 : Int) (a0_1 : Int) (A0_2 : Option Addr) (c0_2 : Nat) (l0_2 : List Int) (r : Int) (w : World) (hr0_2 : Kd.C (Kd.int .u8) w A0_2 l0_2.length l0_2) (hc0_2 : l0_2.length ≤ c0_2) (h : brokerref32_Check.f k a0_0 a0_1 l0_2 = some r) :
 Calls Try.prog 49 #[.agg #[.int .i64 a0_0, .int .i64 a0_1, .slice A0_2 l0_2.length c0_2]] w fun e w' => e = .returned (.int .i64 r) ∧ Below w.heap.size w w' := by
 have hu43 := Try.underlying43
 have hu23 := Try.underlying23
 have HR0_2 := Aside0.mk hr0_2
 have HC0_2 := Aside0.mk hc0_2
 clear hr0_2 hc0_2
 have HB := Aside0.mk (Below.refl w.heap.size w)
 have H : (if a0_0 < 0 then (brokerref32_Check.j0 k true a0_0 a0_1 l0_2) else (brokerref32_Check.j0 k (decide (a0_0 > 1099511627776)) a0_0 a0_1 l0_2)) = some r := h
 clear h
 have HC2 := Aside0.mk H
 clear H
 go_enter Try.func49, Try.ntmps49
 go_upto_region 1 with (first | ((with_reducible refine gate_dst (N := 1) rfl ?_); refine Hlp.bx (N := 1) (cs := #[.int .i64 a0_0, .int .i64 a0_1, .slice A0_2 l0_2.length c0_2]) (t := 43) ?_; intro gb453 hg w3 hbox hb; have BK453 := Aside0.mk (hbox); have GW453 := Aside0.mk ((by rw [hg]; exact (below_size (Hlp.bl HB.out)) : w.heap.size ≤ gb453)); have GE453 := Aside0.mk ((by rw [hg]; exact (below_size (Hlp.bl HB.out)) : w.heap.size ≤ gb453)); replace HB := Aside0.mk (below_step (Hlp.bl HB.out) hb); clear hb hbox hg))
 (try simp only [Act.put, List.setIfInBounds_toArray, List.set_cons_zero, List.set_cons_succ])
 go_cut [15] (fun v15 wc => ∃ (kq : Nat) (x15_1 : Bool), v15 = .bool x15_1 ∧ Aside0 (brokerref32_Check.j0 kq x15_1 a0_0 a0_1 l0_2 = some r) ∧ Aside0 (kq ≤ k) ∧ Aside0 (wc.heap[gb453]? = some (.cells #[.int .i64 a0_0, .int .i64 a0_1, (.slice A0_2 l0_2.length c0_2)] 43 (0, 0))) ∧ Aside0 (Below w.heap.size w wc))
 case first =>
  have H := HC2.out
  clear HC2
  by_cases c4 : a0_0 < 0
  ·
   rw [if_pos c4] at H
   have c4b0 : decide (a0_0 < 0) = true := decide_eq_true c4
   clear c4
   (first | rw [c4b0] | (simp only [i64_w, i32_w]; rw [c4b0]) | skip)
   have H' := Aside0.mk H
   clear H
   have hcz5_0 : w3.cell? ⟨gb453, 0, none⟩ = some (.int .i64 a0_0) := (blk_cell BK453.out 0).trans rfl
   have hcz5_1 : w3.cell? ⟨gb453, 1, none⟩ = some (.int .i64 a0_1) := (blk_cell BK453.out 1).trans rfl
   have hcz5_2 : w3.cell? ⟨gb453, 2, none⟩ = some (.slice A0_2 l0_2.length c0_2) := (blk_cell BK453.out 2).trans rfl
   have hfz5_0 := blk_frozen BK453.out 0
   have hfz5_1 := blk_frozen BK453.out 1
   have hfz5_2 := blk_frozen BK453.out 2
   go_wp2
   go_meet
   case rel => exact ⟨_, (true), (by first | rfl | (simp; done) | (simp [*]; done)), H', ⟨by first | omega | exact Nat.le_refl _⟩, ⟨by exact Hlp.bp BK453.out⟩, ⟨Hlp.bl HB.out⟩⟩
  ·
   rw [if_neg c4] at H
   have c4b0 : decide (a0_0 < 0) = false := decide_eq_false c4
   clear c4
   (first | rw [c4b0] | (simp only [i64_w, i32_w]; rw [c4b0]) | skip)
   have H' := Aside0.mk H
   clear H
   have hcz6_0 : w3.cell? ⟨gb453, 0, none⟩ = some (.int .i64 a0_0) := (blk_cell BK453.out 0).trans rfl
   have hcz6_1 : w3.cell? ⟨gb453, 1, none⟩ = some (.int .i64 a0_1) := (blk_cell BK453.out 1).trans rfl
   have hcz6_2 : w3.cell? ⟨gb453, 2, none⟩ = some (.slice A0_2 l0_2.length c0_2) := (blk_cell BK453.out 2).trans rfl
   have hfz6_0 := blk_frozen BK453.out 0
   have hfz6_1 := blk_frozen BK453.out 1
   have hfz6_2 := blk_frozen BK453.out 2
   go_wp2
   go_meet
   case rel => exact ⟨_, (decide (a0_0 > 1099511627776)), (by first | rfl | (simp; done) | (simp [*]; done)), H', ⟨by first | omega | exact Nat.le_refl _⟩, ⟨by exact Hlp.bp BK453.out⟩, ⟨Hlp.bl HB.out⟩⟩
 case rest =>
  clear HC2
  try clear p2
  try clear c4
  try clear c4b0
  try clear hcz5_0
  try clear hcz5_1
  try clear hcz5_2
  try clear hcz6_0
  try clear hcz6_1
  try clear hcz6_2
  try clear hfz5_0
  try clear hfz5_1
  try clear hfz5_2
  try clear hfz6_0
  try clear hfz6_1
  try clear hfz6_2
  obtain ⟨kq, x15_1, rfl, HA, HJ1, BK453, HB⟩ := hcut
  cases kq with
  | zero => exact absurd HA.out (by simp [brokerref32_Check.j0])
  | succ kj1 =>
   have H := HA.out
   clear HA
   simp only [brokerref32_Check.j0] at H
   by_cases c7 : x15_1 = true
   ·
    subst c7
    have H1 : (some 1) = some r := by rw [if_pos rfl] at H; exact H
    clear H
    have H := H1
    clear H1
    obtain rfl := Option.some.inj H
    go_wp2
    go_ret
    exact ⟨by first | rfl | (simp [errW_none, errW_some] <;> rfl) | (simp [*, errW_none, errW_some] <;> rfl), Hlp.bl HB.out⟩
   ·
    replace c7 := Bool.eq_false_iff.mpr c7
    subst c7
    have H1 : (if (l0_2.length : Int) > 65536 then (some 5) else (brokerref32_Check.l0 kj1 0 0 a0_0 a0_1 l0_2)) = some r := by rw [if_neg (show ¬ (false = true) by decide)] at H; exact H
    clear H
    have H := H1
    clear H1
    by_cases c8 : (l0_2.length : Int) > 65536
    ·
     rw [if_pos c8] at H
     have c8b0 : decide (65536 < (l0_2.length : Int)) = true := decide_eq_true c8
     have c8b1 : decide (65536 < l0_2.length) = true := decide_eq_true (by omega)
     clear c8
     obtain rfl := Option.some.inj H
     have hcz9_0 : wc.cell? ⟨gb453, 0, none⟩ = some (.int .i64 a0_0) := (blk_cell BK453.out 0).trans rfl
     have hcz9_1 : wc.cell? ⟨gb453, 1, none⟩ = some (.int .i64 a0_1) := (blk_cell BK453.out 1).trans rfl
     have hcz9_2 : wc.cell? ⟨gb453, 2, none⟩ = some (.slice A0_2 l0_2.length c0_2) := (blk_cell BK453.out 2).trans rfl
     have hfz9_0 := blk_frozen BK453.out 0
     have hfz9_1 := blk_frozen BK453.out 1
     have hfz9_2 := blk_frozen BK453.out 2
     go_wp2
     go_ret
     exact ⟨by first | rfl | (simp [errW_none, errW_some] <;> rfl) | (simp [*, errW_none, errW_some] <;> rfl), Hlp.bl HB.out⟩
    ·
     rw [if_neg c8] at H
     have c8b0 : decide (65536 < (l0_2.length : Int)) = false := decide_eq_false c8
     have c8b1 : decide (65536 < l0_2.length) = false := decide_eq_false (by omega)
     clear c8
     have H' := Aside0.mk H
     clear H
     have hcz10_0 : wc.cell? ⟨gb453, 0, none⟩ = some (.int .i64 a0_0) := (blk_cell BK453.out 0).trans rfl
     have hcz10_1 : wc.cell? ⟨gb453, 1, none⟩ = some (.int .i64 a0_1) := (blk_cell BK453.out 1).trans rfl
     have hcz10_2 : wc.cell? ⟨gb453, 2, none⟩ = some (.slice A0_2 l0_2.length c0_2) := (blk_cell BK453.out 2).trans rfl
     have hfz10_0 := blk_frozen BK453.out 0
     have hfz10_1 := blk_frozen BK453.out 1
     have hfz10_2 := blk_frozen BK453.out 2
     go_wp2
     go_loopg [3, 4] kj1 (fun kq v3 v4 w' => ∃ (x3_2 : Int) (x4_2 : Int), v3 = .int .i64 x3_2 ∧ v4 = .int .i64 x4_2 ∧ Aside0 (brokerref32_Check.l0 kq x3_2 x4_2 a0_0 a0_1 l0_2 = some r) ∧ Aside0 (kq ≤ kj1) ∧ Aside0 (w'.heap[gb453]? = some (.cells #[.int .i64 a0_0, .int .i64 a0_1, (.slice A0_2 l0_2.length c0_2)] 43 (0, 0))) ∧ Aside0 (Below w.heap.size w w'))
     case atStart => exact ⟨(0), (0), (by first | rfl | (simp; done) | (simp [*]; done)), (by first | rfl | (simp; done) | (simp [*]; done)), H', ⟨Nat.le_refl _⟩, ⟨by exact Hlp.bp BK453.out⟩, ⟨Hlp.bl HB.out⟩⟩
     case round =>
      clear H'
      try clear p2
      try clear c4
      try clear c4b0
      try clear c7
      try clear c8
      try clear c8b0
      try clear c8b1
      try clear hcz10_0
      try clear hcz10_1
      try clear hcz10_2
      try clear hcz5_0
      try clear hcz5_1
      try clear hcz5_2
      try clear hcz6_0
      try clear hcz6_1
      try clear hcz6_2
      try clear hcz9_0
      try clear hcz9_1
      try clear hcz9_2
      try clear hfz10_0
      try clear hfz10_1
      try clear hfz10_2
      try clear hfz5_0
      try clear hfz5_1
      try clear hfz5_2
      try clear hfz6_0
      try clear hfz6_1
      try clear hfz6_2
      try clear hfz9_0
      try clear hfz9_1
      try clear hfz9_2
      try clear p2
      obtain ⟨x3_2, x4_2, rfl, rfl, HA, HK2, BK453, HB⟩ := hrel
      cases gk with
      | zero => exact absurd HA.out (by simp [brokerref32_Check.l0])
      | succ k2 =>
       have H := HA.out
       clear HA
       simp only [brokerref32_Check.l0] at H
       by_cases c11 : x3_2 < (l0_2.length : Int)
       ·
        rw [if_pos c11] at H
        have c11b0 : decide (x3_2 < (l0_2.length : Int)) = true := decide_eq_true c11
        clear c11
        replace H := Option.bind_eq_some_iff.mp H
        obtain ⟨⟨t454, t455, t456, t457, t458, t459⟩, A120, H⟩ := H
        replace H : (if t459 = 0 then (if t454 = (wrap64 (a0_0 + x4_2)) then (brokerref32_Check.l0 k2 t458 (wrap64 (x4_2 + 1)) a0_0 a0_1 l0_2) else (some 22)) else (some t459)) = some r := H
        have A12 := Aside0.mk A120
        clear A120
        by_cases c13 : t459 = 0
        ·
         rw [if_pos c13] at H
         have c13b0 : (t459 == 0) = true := beq_iff_eq.mpr c13
         have c13b1 : (t459 != 0) = false := bne_eq_false_iff_eq.mpr c13
         clear c13
         by_cases c14 : t454 = (wrap64 (a0_0 + x4_2))
         ·
          rw [if_pos c14] at H
          have c14b0 : (t454 == (wrap64 (a0_0 + x4_2))) = true := beq_iff_eq.mpr c14
          have c14b1 : (t454 != (wrap64 (a0_0 + x4_2))) = false := bne_eq_false_iff_eq.mpr c14
          clear c14
          have H' := Aside0.mk H
          clear H
          have hcz15_0 : wr.cell? ⟨gb453, 0, none⟩ = some (.int .i64 a0_0) := (blk_cell BK453.out 0).trans rfl
          have hcz15_1 : wr.cell? ⟨gb453, 1, none⟩ = some (.int .i64 a0_1) := (blk_cell BK453.out 1).trans rfl
          have hcz15_2 : wr.cell? ⟨gb453, 2, none⟩ = some (.slice A0_2 l0_2.length c0_2) := (blk_cell BK453.out 2).trans rfl
          have hfz15_0 := blk_frozen BK453.out 0
          have hfz15_1 := blk_frozen BK453.out 1
          have hfz15_2 := blk_frozen BK453.out 2
          go_wp2_with (first | ((with_reducible refine gate_callee (f := 30) rfl ?_); refine Hlp.gl (some 29) Try.func30 #[.slice A0_2 l0_2.length c0_2, .int .i64 x3_2] ?_; (with_reducible refine (brokerref31_Decode.calls k2 _ _ l0_2 x3_2 t454 t455 t456 t457 t458 t459 _ ?side1 ?side2 A12.out).mono ?_); (case side1 => exact Hlp.cp (Kd.C_below HR0_2.out HB.out)); (case side2 => exact HC0_2.out); rintro e w16 ⟨rfl, hb⟩; refine ⟨_, rfl, ?_⟩; replace BK453 := Aside0.mk (blk_below (g := gb453) (o := .cells #[.int .i64 a0_0, .int .i64 a0_1, .slice A0_2 l0_2.length c0_2] 43 (0, 0)) (Hlp.bp BK453.out) hb); replace HB := Aside0.mk (below_step (Hlp.bl HB.out) hb); (try clear hb); (try clear hb2); (try clear hk); (try clear hi)) | ((with_reducible refine gate_dst (N := 5) rfl ?_); refine Hlp.bx (N := 5) (cs := #[.int .i64 0, .int .i64 0, .string (⟨#[]⟩ : ByteArray), .string (⟨#[]⟩ : ByteArray)]) (t := 23) ?_; intro gb460 hg w17 hbox hb; have BK460 := Aside0.mk (hbox); have GW460 := Aside0.mk ((by rw [hg]; exact (below_size (Hlp.bl HB.out)) : w.heap.size ≤ gb460)); have GE460 := Aside0.mk ((by rw [hg]; exact (below_size (Hlp.bl HB.out)) : w.heap.size ≤ gb460)); replace HB := Aside0.mk (below_step (Hlp.bl HB.out) hb); have NB453_460 := Aside0.mk ((by rw [hg]; exact Nat.ne_of_lt (blk_lt (g := gb453) (o := .cells #[.int .i64 a0_0, .int .i64 a0_1, .slice A0_2 l0_2.length c0_2] 43 (0, 0)) (Hlp.bp BK453.out)) : gb453 ≠ gb460)); have NB460_453 := Aside0.mk ((by rw [hg]; exact Nat.ne_of_gt (blk_lt (g := gb453) (o := .cells #[.int .i64 a0_0, .int .i64 a0_1, .slice A0_2 l0_2.length c0_2] 43 (0, 0)) (Hlp.bp BK453.out)) : gb460 ≠ gb453)); replace BK453 := Aside0.mk (blk_below (g := gb453) (o := .cells #[.int .i64 a0_0, .int .i64 a0_1, .slice A0_2 l0_2.length c0_2] 43 (0, 0)) (Hlp.bp BK453.out) hb); clear hb hbox hg; have hnb18 := NB460_453.out; have hnc18 := NB453_460.out; have hcz19_0 : w17.cell? ⟨gb460, 0, none⟩ = some (.int .i64 0) := (blk_cell BK460.out 0).trans rfl; have hcz19_1 : w17.cell? ⟨gb460, 1, none⟩ = some (.int .i64 0) := (blk_cell BK460.out 1).trans rfl; have hcz19_2 : w17.cell? ⟨gb460, 2, none⟩ = some (.string (⟨#[]⟩ : ByteArray)) := (blk_cell BK460.out 2).trans rfl; have hcz19_3 : w17.cell? ⟨gb460, 3, none⟩ = some (.string (⟨#[]⟩ : ByteArray)) := (blk_cell BK460.out 3).trans rfl; have hfz19_0 := blk_frozen BK460.out 0; have hfz19_1 := blk_frozen BK460.out 1; have hfz19_2 := blk_frozen BK460.out 2; have hfz19_3 := blk_frozen BK460.out 3; have hcz20_0 : w17.cell? ⟨gb453, 0, none⟩ = some (.int .i64 a0_0) := (blk_cell BK453.out 0).trans rfl; have hcz20_1 : w17.cell? ⟨gb453, 1, none⟩ = some (.int .i64 a0_1) := (blk_cell BK453.out 1).trans rfl; have hcz20_2 : w17.cell? ⟨gb453, 2, none⟩ = some (.slice A0_2 l0_2.length c0_2) := (blk_cell BK453.out 2).trans rfl; have hfz20_0 := blk_frozen BK453.out 0; have hfz20_1 := blk_frozen BK453.out 1; have hfz20_2 := blk_frozen BK453.out 2))
          go_roundg k2
          case measure => have := HJ1.out; have := HK2.out; omega
          case rel => exact ⟨(t458), (wrap64 (x4_2 + 1)), (by first | rfl | (simp; done) | (simp [*]; done)), (by first | rfl | (simp; done) | (simp [*]; done)), H', ⟨by have := HJ1.out; have := HK2.out; omega⟩, ⟨by refine Hlp.bp (blk_far ?_ NB453_460.out _); refine Hlp.bp (blk_far ?_ NB453_460.out _); refine Hlp.bp (blk_far ?_ NB453_460.out _); refine Hlp.bp (blk_far ?_ NB453_460.out _); exact Hlp.bp BK453.out⟩, ⟨Hlp.bl HB.out⟩⟩
         ·
          rw [if_neg c14] at H
          have c14b0 : (t454 == (wrap64 (a0_0 + x4_2))) = false := beq_eq_false_iff_ne.mpr c14
          have c14b1 : (t454 != (wrap64 (a0_0 + x4_2))) = true := bne_iff_ne.mpr c14
          obtain rfl := Option.some.inj H
          have hcz21_0 : wr.cell? ⟨gb453, 0, none⟩ = some (.int .i64 a0_0) := (blk_cell BK453.out 0).trans rfl
          have hcz21_1 : wr.cell? ⟨gb453, 1, none⟩ = some (.int .i64 a0_1) := (blk_cell BK453.out 1).trans rfl
          have hcz21_2 : wr.cell? ⟨gb453, 2, none⟩ = some (.slice A0_2 l0_2.length c0_2) := (blk_cell BK453.out 2).trans rfl
          have hfz21_0 := blk_frozen BK453.out 0
          have hfz21_1 := blk_frozen BK453.out 1
          have hfz21_2 := blk_frozen BK453.out 2
          go_wp2_with (first | ((with_reducible refine gate_callee (f := 30) rfl ?_); refine Hlp.gl (some 29) Try.func30 #[.slice A0_2 l0_2.length c0_2, .int .i64 x3_2] ?_; (with_reducible refine (brokerref31_Decode.calls k2 _ _ l0_2 x3_2 t454 t455 t456 t457 t458 t459 _ ?side1 ?side2 A12.out).mono ?_); (case side1 => exact Hlp.cp (Kd.C_below HR0_2.out HB.out)); (case side2 => exact HC0_2.out); rintro e w22 ⟨rfl, hb⟩; refine ⟨_, rfl, ?_⟩; replace BK453 := Aside0.mk (blk_below (g := gb453) (o := .cells #[.int .i64 a0_0, .int .i64 a0_1, .slice A0_2 l0_2.length c0_2] 43 (0, 0)) (Hlp.bp BK453.out) hb); replace HB := Aside0.mk (below_step (Hlp.bl HB.out) hb); (try clear hb); (try clear hb2); (try clear hk); (try clear hi)) | ((with_reducible refine gate_dst (N := 5) rfl ?_); refine Hlp.bx (N := 5) (cs := #[.int .i64 0, .int .i64 0, .string (⟨#[]⟩ : ByteArray), .string (⟨#[]⟩ : ByteArray)]) (t := 23) ?_; intro gb460 hg w23 hbox hb; have BK460 := Aside0.mk (hbox); have GW460 := Aside0.mk ((by rw [hg]; exact (below_size (Hlp.bl HB.out)) : w.heap.size ≤ gb460)); have GE460 := Aside0.mk ((by rw [hg]; exact (below_size (Hlp.bl HB.out)) : w.heap.size ≤ gb460)); replace HB := Aside0.mk (below_step (Hlp.bl HB.out) hb); have NB453_460 := Aside0.mk ((by rw [hg]; exact Nat.ne_of_lt (blk_lt (g := gb453) (o := .cells #[.int .i64 a0_0, .int .i64 a0_1, .slice A0_2 l0_2.length c0_2] 43 (0, 0)) (Hlp.bp BK453.out)) : gb453 ≠ gb460)); have NB460_453 := Aside0.mk ((by rw [hg]; exact Nat.ne_of_gt (blk_lt (g := gb453) (o := .cells #[.int .i64 a0_0, .int .i64 a0_1, .slice A0_2 l0_2.length c0_2] 43 (0, 0)) (Hlp.bp BK453.out)) : gb460 ≠ gb453)); replace BK453 := Aside0.mk (blk_below (g := gb453) (o := .cells #[.int .i64 a0_0, .int .i64 a0_1, .slice A0_2 l0_2.length c0_2] 43 (0, 0)) (Hlp.bp BK453.out) hb); clear hb hbox hg; have hnb24 := NB460_453.out; have hnc24 := NB453_460.out; have hcz25_0 : w23.cell? ⟨gb460, 0, none⟩ = some (.int .i64 0) := (blk_cell BK460.out 0).trans rfl; have hcz25_1 : w23.cell? ⟨gb460, 1, none⟩ = some (.int .i64 0) := (blk_cell BK460.out 1).trans rfl; have hcz25_2 : w23.cell? ⟨gb460, 2, none⟩ = some (.string (⟨#[]⟩ : ByteArray)) := (blk_cell BK460.out 2).trans rfl; have hcz25_3 : w23.cell? ⟨gb460, 3, none⟩ = some (.string (⟨#[]⟩ : ByteArray)) := (blk_cell BK460.out 3).trans rfl; have hfz25_0 := blk_frozen BK460.out 0; have hfz25_1 := blk_frozen BK460.out 1; have hfz25_2 := blk_frozen BK460.out 2; have hfz25_3 := blk_frozen BK460.out 3; have hcz26_0 : w23.cell? ⟨gb453, 0, none⟩ = some (.int .i64 a0_0) := (blk_cell BK453.out 0).trans rfl; have hcz26_1 : w23.cell? ⟨gb453, 1, none⟩ = some (.int .i64 a0_1) := (blk_cell BK453.out 1).trans rfl; have hcz26_2 : w23.cell? ⟨gb453, 2, none⟩ = some (.slice A0_2 l0_2.length c0_2) := (blk_cell BK453.out 2).trans rfl; have hfz26_0 := blk_frozen BK453.out 0; have hfz26_1 := blk_frozen BK453.out 1; have hfz26_2 := blk_frozen BK453.out 2))
          go_ret
          exact ⟨by first | rfl | (simp [errW_none, errW_some] <;> rfl) | (simp [*, errW_none, errW_some] <;> rfl), Hlp.bl HB.out⟩
        ·
         rw [if_neg c13] at H
         have c13b0 : (t459 == 0) = false := beq_eq_false_iff_ne.mpr c13
         have c13b1 : (t459 != 0) = true := bne_iff_ne.mpr c13
         obtain rfl := Option.some.inj H
         have hcz27_0 : wr.cell? ⟨gb453, 0, none⟩ = some (.int .i64 a0_0) := (blk_cell BK453.out 0).trans rfl
         have hcz27_1 : wr.cell? ⟨gb453, 1, none⟩ = some (.int .i64 a0_1) := (blk_cell BK453.out 1).trans rfl
         have hcz27_2 : wr.cell? ⟨gb453, 2, none⟩ = some (.slice A0_2 l0_2.length c0_2) := (blk_cell BK453.out 2).trans rfl
         have hfz27_0 := blk_frozen BK453.out 0
         have hfz27_1 := blk_frozen BK453.out 1
         have hfz27_2 := blk_frozen BK453.out 2
         go_wp2_with (first | ((with_reducible refine gate_callee (f := 30) rfl ?_); refine Hlp.gl (some 29) Try.func30 #[.slice A0_2 l0_2.length c0_2, .int .i64 x3_2] ?_; (with_reducible refine (brokerref31_Decode.calls k2 _ _ l0_2 x3_2 t454 t455 t456 t457 t458 t459 _ ?side1 ?side2 A12.out).mono ?_); (case side1 => exact Hlp.cp (Kd.C_below HR0_2.out HB.out)); (case side2 => exact HC0_2.out); rintro e w28 ⟨rfl, hb⟩; refine ⟨_, rfl, ?_⟩; replace BK453 := Aside0.mk (blk_below (g := gb453) (o := .cells #[.int .i64 a0_0, .int .i64 a0_1, .slice A0_2 l0_2.length c0_2] 43 (0, 0)) (Hlp.bp BK453.out) hb); replace HB := Aside0.mk (below_step (Hlp.bl HB.out) hb); (try clear hb); (try clear hb2); (try clear hk); (try clear hi)) | ((with_reducible refine gate_dst (N := 5) rfl ?_); refine Hlp.bx (N := 5) (cs := #[.int .i64 0, .int .i64 0, .string (⟨#[]⟩ : ByteArray), .string (⟨#[]⟩ : ByteArray)]) (t := 23) ?_; intro gb460 hg w29 hbox hb; have BK460 := Aside0.mk (hbox); have GW460 := Aside0.mk ((by rw [hg]; exact (below_size (Hlp.bl HB.out)) : w.heap.size ≤ gb460)); have GE460 := Aside0.mk ((by rw [hg]; exact (below_size (Hlp.bl HB.out)) : w.heap.size ≤ gb460)); replace HB := Aside0.mk (below_step (Hlp.bl HB.out) hb); have NB453_460 := Aside0.mk ((by rw [hg]; exact Nat.ne_of_lt (blk_lt (g := gb453) (o := .cells #[.int .i64 a0_0, .int .i64 a0_1, .slice A0_2 l0_2.length c0_2] 43 (0, 0)) (Hlp.bp BK453.out)) : gb453 ≠ gb460)); have NB460_453 := Aside0.mk ((by rw [hg]; exact Nat.ne_of_gt (blk_lt (g := gb453) (o := .cells #[.int .i64 a0_0, .int .i64 a0_1, .slice A0_2 l0_2.length c0_2] 43 (0, 0)) (Hlp.bp BK453.out)) : gb460 ≠ gb453)); replace BK453 := Aside0.mk (blk_below (g := gb453) (o := .cells #[.int .i64 a0_0, .int .i64 a0_1, .slice A0_2 l0_2.length c0_2] 43 (0, 0)) (Hlp.bp BK453.out) hb); clear hb hbox hg; have hnb30 := NB460_453.out; have hnc30 := NB453_460.out; have hcz31_0 : w29.cell? ⟨gb460, 0, none⟩ = some (.int .i64 0) := (blk_cell BK460.out 0).trans rfl; have hcz31_1 : w29.cell? ⟨gb460, 1, none⟩ = some (.int .i64 0) := (blk_cell BK460.out 1).trans rfl; have hcz31_2 : w29.cell? ⟨gb460, 2, none⟩ = some (.string (⟨#[]⟩ : ByteArray)) := (blk_cell BK460.out 2).trans rfl; have hcz31_3 : w29.cell? ⟨gb460, 3, none⟩ = some (.string (⟨#[]⟩ : ByteArray)) := (blk_cell BK460.out 3).trans rfl; have hfz31_0 := blk_frozen BK460.out 0; have hfz31_1 := blk_frozen BK460.out 1; have hfz31_2 := blk_frozen BK460.out 2; have hfz31_3 := blk_frozen BK460.out 3))
         go_ret
         exact ⟨by first | rfl | (simp [errW_none, errW_some] <;> rfl) | (simp [*, errW_none, errW_some] <;> rfl), Hlp.bl HB.out⟩
       ·
        rw [if_neg c11] at H
        have c11b0 : decide (x3_2 < (l0_2.length : Int)) = false := decide_eq_false c11
        clear c11
        by_cases c32 : a0_1 = (wrap64 (a0_0 + x4_2))
        ·
         rw [if_pos c32] at H
         have c32b0 : (a0_1 == (wrap64 (a0_0 + x4_2))) = true := beq_iff_eq.mpr c32
         have c32b1 : (a0_1 != (wrap64 (a0_0 + x4_2))) = false := bne_eq_false_iff_eq.mpr c32
         clear c32
         obtain rfl := Option.some.inj H
         have hcz33_0 : wr.cell? ⟨gb453, 0, none⟩ = some (.int .i64 a0_0) := (blk_cell BK453.out 0).trans rfl
         have hcz33_1 : wr.cell? ⟨gb453, 1, none⟩ = some (.int .i64 a0_1) := (blk_cell BK453.out 1).trans rfl
         have hcz33_2 : wr.cell? ⟨gb453, 2, none⟩ = some (.slice A0_2 l0_2.length c0_2) := (blk_cell BK453.out 2).trans rfl
         have hfz33_0 := blk_frozen BK453.out 0
         have hfz33_1 := blk_frozen BK453.out 1
         have hfz33_2 := blk_frozen BK453.out 2
         go_wp2
         go_ret
         exact ⟨by first | rfl | (simp [errW_none, errW_some] <;> rfl) | (simp [*, errW_none, errW_some] <;> rfl), Hlp.bl HB.out⟩
        ·
         rw [if_neg c32] at H
         have c32b0 : (a0_1 == (wrap64 (a0_0 + x4_2))) = false := beq_eq_false_iff_ne.mpr c32
         have c32b1 : (a0_1 != (wrap64 (a0_0 + x4_2))) = true := bne_iff_ne.mpr c32
         obtain rfl := Option.some.inj H
         have hcz34_0 : wr.cell? ⟨gb453, 0, none⟩ = some (.int .i64 a0_0) := (blk_cell BK453.out 0).trans rfl
         have hcz34_1 : wr.cell? ⟨gb453, 1, none⟩ = some (.int .i64 a0_1) := (blk_cell BK453.out 1).trans rfl
         have hcz34_2 : wr.cell? ⟨gb453, 2, none⟩ = some (.slice A0_2 l0_2.length c0_2) := (blk_cell BK453.out 2).trans rfl
         have hfz34_0 := blk_frozen BK453.out 0
         have hfz34_1 := blk_frozen BK453.out 1
         have hfz34_2 := blk_frozen BK453.out 2
         go_wp2
         go_ret
         exact ⟨by first | rfl | (simp [errW_none, errW_some] <;> rfl) | (simp [*, errW_none, errW_some] <;> rfl), Hlp.bl HB.out⟩

end Go.Proofs.Ytkkelbakadbbhaa.J
