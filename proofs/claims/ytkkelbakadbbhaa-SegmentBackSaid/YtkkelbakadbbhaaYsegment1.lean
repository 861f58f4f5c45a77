/- Lean functions that compute what the Go functions named below compute; each theorem '.calls': if its Lean function has an answer, the Go function returns it. -/
import Derived.Test.YtkkelbakadbbhaaYx0
import Derived.Test.YtkkelbakadbbhaaH
import Derived.Test.YtkkelbakadbbhaaYrecord0
namespace Go.Proofs.Ytkkelbakadbbhaa.J
open Go.RowKit Go.Proofs.YtkkelbakadbbhaaW.PrintWords Go.Proofs.YtkkelbakadbbhaaW.PrintLast Go.Proofs.YtkkelbakadbbhaaW.PrintMore
attribute [local go_sem] max2_int min2_int max_two min_two max_three min_three max_four min_four   -- for this text's walks alone
set_option linter.unusedVariables false
set_option linter.unusedSimpArgs false

/-! ### segment_Recover: function 59 -/
def segment_Recover.l0 : Nat → List Int → Int → Int → Int → Option (Int × Int × List Int × Int)
 | 0, _, _, _, _ => none
 | k + 1, x0, x1, x6, x7 => if x7 < (x0.length : Int) then ((record_Decode.f k x0 x7).bind fun bt269 => (if bt269.2.2.2.2.2 = 0 then (if bt269.1 = x6 then (if bt269.2.2.2.2.1 > 65536 then (if 0 ≤ x7 then (if x7 ≤ (x0.length : Int) then ((segment_owned.f (x0.take (x7 : Int).toNat) ([] : List Int)).bind fun t277 => (some (x1, x6, t277, x7))) else (none)) else (none)) else (segment_Recover.l0 k x0 x1 (wrap64 (x6 + 1)) bt269.2.2.2.2.1)) else (if 0 ≤ x7 then (if x7 ≤ (x0.length : Int) then ((segment_owned.f (x0.take (x7 : Int).toNat) ([] : List Int)).bind fun t281 => (some (x1, x6, t281, x7))) else (none)) else (none))) else (if 0 ≤ x7 then (if x7 ≤ (x0.length : Int) then ((segment_owned.f (x0.take (x7 : Int).toNat) ([] : List Int)).bind fun t285 => (some (x1, x6, t285, x7))) else (none)) else (none)))) else (if 0 ≤ x7 then (if x7 ≤ (x0.length : Int) then ((segment_owned.f (x0.take (x7 : Int).toNat) ([] : List Int)).bind fun t289 => (some (x1, x6, t289, x7))) else (none)) else (none))
def segment_Recover.f (k : Nat) (l0 : List Int) (a1 : Int) : Option (Int × Int × List Int × Int) := segment_Recover.l0 k l0 a1 a1 0
theorem segment_Recover.mono_l : ∀ k, (∀ y0 y1 y2 y3, LeO (segment_Recover.l0 k y0 y1 y2 y3) (segment_Recover.l0 (k + 1) y0 y1 y2 y3))
 | 0 => fun _ _ _ _ r h => by simp [segment_Recover.l0] at h
 | k + 1 => by
  have ih0 := segment_Recover.mono_l k
  ·
   intro y0 y1 y2 y3
   unfold segment_Recover.l0
   repeat' first
   | (with_reducible exact ih0 _ _ _ _)
   | (with_reducible exact record_Decode.mono _ _ _)
   | (with_reducible exact LeO.refl _)
   | (with_reducible exact LeO.none _)
   | (with_reducible refine LeO.ite ?_ ?_)
   | (with_reducible refine LeO.bind ?_ (fun _ => ?_))
   | exact ih0 _ _ _ _
   | exact record_Decode.mono _ _ _
   | exact LeO.none _
   | refine LeO.ite ?_ ?_
   | refine LeO.bind ?_ (fun _ => ?_)
theorem segment_Recover.mono : ∀ a0 a1 k, LeO (segment_Recover.f k a0 a1) (segment_Recover.f (k + 1) a0 a1) := by
 intro a0 a1 k
 have ih0 := segment_Recover.mono_l k
 unfold segment_Recover.f
 repeat' first
  | (with_reducible exact ih0 _ _ _ _)
  | (with_reducible exact record_Decode.mono _ _ _)
  | (with_reducible exact LeO.refl _)
  | (with_reducible exact LeO.none _)
  | (with_reducible refine LeO.ite ?_ ?_)
  | (with_reducible refine LeO.bind ?_ (fun _ => ?_))
  | exact ih0 _ _ _ _
  | exact record_Decode.mono _ _ _
  | exact LeO.none _
  | refine LeO.ite ?_ ?_
  | refine LeO.bind ?_ (fun _ => ?_)
set_option maxHeartbeats 8000000 in
set_option maxRecDepth 100000 in
theorem segment_Recover.calls (k : Nat) (A0 : Option Addr) (c0 : Nat) (l0 : List Int) (a1 : Int) (r1 : Int) (r2 : Int) (r3 : List Int) (r4 : Int) (w : World) (hr0 : Kd.C (Kd.int .u8) w A0 l0.length l0) (hc0 : l0.length ≤ c0) (h : segment_Recover.f k l0 a1 = some (r1, r2, r3, r4)) :
 Calls Try.prog 59 #[.slice A0 l0.length c0, .int .i64 a1] w fun e w' => ∃ v2_ : Value, e = .returned (.tuple #[.agg #[.int .i64 r1, .int .i64 r2, v2_], .int .i64 r4]) ∧ Kd.R (Kd.int .u8) 5 w' w.heap.size (fun _ => True) v2_ r3 ∧ Below w.heap.size w w' := by
 have hu43 := Try.underlying43
 have hu23 := Try.underlying23
 have HR0 := Aside0.mk hr0
 have HC0 := Aside0.mk hc0
 clear hr0 hc0
 have HB := Aside0.mk (Below.refl w.heap.size w)
 have H : (segment_Recover.l0 k l0 a1 a1 0) = some (r1, r2, r3, r4) := h
 clear h
 have H' := Aside0.mk H
 clear H
 go_enter Try.func59, Try.ntmps59
 go_wp2_with (first | ((with_reducible refine gate_dst (N := 4) rfl ?_); refine Hlp.bx (N := 4) (cs := #[.int .i64 0, .int .i64 0, .slice none 0 0]) (t := 43) ?_; intro gb268 hg w3 hbox hb; have BK268 := Aside0.mk (hbox); have GW268 := Aside0.mk ((by rw [hg]; exact (below_size (Hlp.bl HB.out)) : w.heap.size ≤ gb268)); have GE268 := Aside0.mk ((by rw [hg]; exact (below_size (Hlp.bl HB.out)) : w.heap.size ≤ gb268)); replace HB := Aside0.mk (below_step (Hlp.bl HB.out) hb); clear hb hbox hg))
 go_loopg [6, 7] k (fun kq v6 v7 w' => ∃ (x6_1 : Int) (x7_1 : Int), v6 = .int .i64 x6_1 ∧ v7 = .int .i64 x7_1 ∧ Aside0 (segment_Recover.l0 kq l0 a1 x6_1 x7_1 = some (r1, r2, r3, r4)) ∧ Aside0 (kq ≤ k) ∧ Aside0 (w'.heap[gb268]? = some (.cells #[.int .i64 0, .int .i64 0, (.slice none 0 0)] 43 (0, 0))) ∧ Aside0 (Below w.heap.size w w'))
 case atStart => exact ⟨(a1), (0), (by first | rfl | (simp; done) | (simp [*]; done)), (by first | rfl | (simp; done) | (simp [*]; done)), H', ⟨Nat.le_refl _⟩, ⟨by exact Hlp.bp BK268.out⟩, ⟨Hlp.bl HB.out⟩⟩
 case round =>
  clear H'
  try clear p2
  obtain ⟨x6_1, x7_1, rfl, rfl, HA, HK1, BK268, HB⟩ := hrel
  cases gk with
  | zero => exact absurd HA.out (by simp [segment_Recover.l0])
  | succ k1 =>
   have H := HA.out
   clear HA
   simp only [segment_Recover.l0] at H
   by_cases c4 : x7_1 < (l0.length : Int)
   ·
    rw [if_pos c4] at H
    have c4b0 : decide (x7_1 < (l0.length : Int)) = true := decide_eq_true c4
    clear c4
    replace H := Option.bind_eq_some_iff.mp H
    obtain ⟨⟨t269, t270, t271, t272, t273, t274⟩, A50, H⟩ := H
    replace H : (if t274 = 0 then (if t269 = x6_1 then (if t273 > 65536 then (if 0 ≤ x7_1 then (if x7_1 ≤ (l0.length : Int) then ((segment_owned.f (l0.take (x7_1 : Int).toNat) ([] : List Int)).bind fun t277 => (some (a1, x6_1, t277, x7_1))) else (none)) else (none)) else (segment_Recover.l0 k1 l0 a1 (wrap64 (x6_1 + 1)) t273)) else (if 0 ≤ x7_1 then (if x7_1 ≤ (l0.length : Int) then ((segment_owned.f (l0.take (x7_1 : Int).toNat) ([] : List Int)).bind fun t281 => (some (a1, x6_1, t281, x7_1))) else (none)) else (none))) else (if 0 ≤ x7_1 then (if x7_1 ≤ (l0.length : Int) then ((segment_owned.f (l0.take (x7_1 : Int).toNat) ([] : List Int)).bind fun t285 => (some (a1, x6_1, t285, x7_1))) else (none)) else (none))) = some (r1, r2, r3, r4) := H
    have A5 := Aside0.mk A50
    clear A50
    by_cases c6 : t274 = 0
    ·
     rw [if_pos c6] at H
     have c6b0 : (t274 == 0) = true := beq_iff_eq.mpr c6
     have c6b1 : (t274 != 0) = false := bne_eq_false_iff_eq.mpr c6
     clear c6
     by_cases c7 : t269 = x6_1
     ·
      rw [if_pos c7] at H
      have c7b0 : (t269 == x6_1) = true := beq_iff_eq.mpr c7
      have c7b1 : (t269 != x6_1) = false := bne_eq_false_iff_eq.mpr c7
      clear c7
      by_cases c8 : t273 > 65536
      ·
       rw [if_pos c8] at H
       have c8b0 : decide (65536 < t273) = true := decide_eq_true c8
       clear c8
       by_cases c9 : 0 ≤ x7_1
       ·
        rw [if_pos c9] at H
        have c9b0 := eq_true c9
        have c9b1 : decide (0 ≤ x7_1) = true := decide_eq_true c9
        clear c9
        by_cases c10 : x7_1 ≤ (l0.length : Int)
        ·
         rw [if_pos c10] at H
         have c10b0 := eq_true c10
         have c10b1 : decide (x7_1 ≤ (l0.length : Int)) = true := decide_eq_true c10
         clear c10
         replace H := Option.bind_eq_some_iff.mp H
         obtain ⟨t277, A110, H⟩ := H
         replace H : (some (a1, x6_1, t277, x7_1)) = some (r1, r2, r3, r4) := H
         have A11 := Aside0.mk A110
         clear A110
         simp only [Option.some.injEq, Prod.mk.injEq] at H
         obtain ⟨rfl, rfl, rfl, rfl⟩ := H
         go_wp2_with (first | ((with_reducible refine gate_callee (f := 29) rfl ?_); refine Hlp.gl (some 19) Try.func29 #[.slice A0 l0.length c0, .int .i64 x7_1] ?_; (with_reducible refine (record_Decode.calls k1 _ _ l0 x7_1 t269 t270 t271 t272 t273 t274 _ ?side1 ?side2 A5.out).mono ?_); (case side1 => exact Hlp.cp (Kd.C_below HR0.out HB.out)); (case side2 => exact HC0.out); rintro e w12 ⟨rfl, hb⟩; refine ⟨_, rfl, ?_⟩; replace BK268 := Aside0.mk (blk_below (g := gb268) (o := .cells #[.int .i64 0, .int .i64 0, .slice none 0 0] 43 (0, 0)) (Hlp.bp BK268.out) hb); replace HB := Aside0.mk (below_step (Hlp.bl HB.out) hb); (try clear hb); (try clear hb2); (try clear hk); (try clear hi)) | ((with_reducible refine gate_dst (N := 8) rfl ?_); refine Hlp.bx (N := 8) (cs := #[.int .i64 0, .int .i64 0, .string (⟨#[]⟩ : ByteArray), .string (⟨#[]⟩ : ByteArray)]) (t := 23) ?_; intro gb275 hg w13 hbox hb; have BK275 := Aside0.mk (hbox); have GW275 := Aside0.mk ((by rw [hg]; exact (below_size (Hlp.bl HB.out)) : w.heap.size ≤ gb275)); have GE275 := Aside0.mk ((by rw [hg]; exact (below_size (Hlp.bl HB.out)) : w.heap.size ≤ gb275)); replace HB := Aside0.mk (below_step (Hlp.bl HB.out) hb); have NB268_275 := Aside0.mk ((by rw [hg]; exact Nat.ne_of_lt (blk_lt (g := gb268) (o := .cells #[.int .i64 0, .int .i64 0, .slice none 0 0] 43 (0, 0)) (Hlp.bp BK268.out)) : gb268 ≠ gb275)); have NB275_268 := Aside0.mk ((by rw [hg]; exact Nat.ne_of_gt (blk_lt (g := gb268) (o := .cells #[.int .i64 0, .int .i64 0, .slice none 0 0] 43 (0, 0)) (Hlp.bp BK268.out)) : gb275 ≠ gb268)); replace BK268 := Aside0.mk (blk_below (g := gb268) (o := .cells #[.int .i64 0, .int .i64 0, .slice none 0 0] 43 (0, 0)) (Hlp.bp BK268.out) hb); clear hb hbox hg; have hnb14 := NB275_268.out; have hnc14 := NB268_275.out; have hcz15_0 : w13.cell? ⟨gb275, 0, none⟩ = some (.int .i64 0) := (blk_cell BK275.out 0).trans rfl; have hcz15_1 : w13.cell? ⟨gb275, 1, none⟩ = some (.int .i64 0) := (blk_cell BK275.out 1).trans rfl; have hcz15_2 : w13.cell? ⟨gb275, 2, none⟩ = some (.string (⟨#[]⟩ : ByteArray)) := (blk_cell BK275.out 2).trans rfl; have hcz15_3 : w13.cell? ⟨gb275, 3, none⟩ = some (.string (⟨#[]⟩ : ByteArray)) := (blk_cell BK275.out 3).trans rfl; have hfz15_0 := blk_frozen BK275.out 0; have hfz15_1 := blk_frozen BK275.out 1; have hfz15_2 := blk_frozen BK275.out 2; have hfz15_3 := blk_frozen BK275.out 3; obtain ⟨i016, hi016, _, hsz16, _⟩ := info_parts info5; obtain ⟨hcut16, hA16, hC16⟩ := print_take_of (P := Try.prog) (Value.int .u8) 0 28 5 .i64 Try.underlying28 hi016 hsz16 A0 c0 l0 x7_1 (of_decide_eq_true (by first | (with_reducible assumption) | assumption)) (of_decide_eq_true (by first | (with_reducible assumption) | assumption)) HC0.out; have HR276 := Aside0.mk (Kd.C_of_reads (h1 := fun _ => rfl) (hA16 _ (Kd.reads_of_C HR0.out))); have HC276 := Aside0.mk hC16; clear hA16 hC16 hi016 hsz16) | ((with_reducible refine gate_callee (f := 78) rfl ?_); refine goesL_ (some 43) rfl rfl Try.func78 (by kernel_rfl) rfl #[.slice A0 (l0.take (x7_1 : Int).toNat).length c0, .slice none 0 0] rfl (by (try simp only [List.map_toArray, List.map_cons, List.map_nil]); first | done | (rw [show (l0.take (x7_1 : Int).toNat).length = x7_1.toNat from (by rw [List.length_take]; have h_ : (x7_1 : Int) ≤ (l0.length : Int) := of_decide_eq_true (by first | (with_reducible assumption) | assumption); omega)] <;> rfl) | rfl | (simp only [List.length_drop, List.length_take]; rfl)) ?_; (refine (segment_owned.calls _ _ (l0.take (x7_1 : Int).toNat) _ _ ([] : List Int) t277 _ ?side1 ?side2 ?side3 ?side4 A11.out).mono ?_); (case side1 => exact Kd.C_below HR276.out (Hlp.bl HB.out)); (case side2 => exact HC276.out); (case side3 => exact Kd.C_nil _ _); (case side4 => exact Nat.le_refl _); rintro e w17 ⟨v278, rfl, ho0, hb⟩; refine ⟨_, rfl, ?_⟩; have HO279 := Aside0.mk (Kd.R_lower ho0 (below_size (Hlp.bl HB.out))); replace BK268 := Aside0.mk (blk_below (g := gb268) (o := .cells #[.int .i64 0, .int .i64 0, .slice none 0 0] 43 (0, 0)) (by refine Hlp.bp (blk_far ?_ NB268_275.out _); refine Hlp.bp (blk_far ?_ NB268_275.out _); refine Hlp.bp (blk_far ?_ NB268_275.out _); refine Hlp.bp (blk_far ?_ NB268_275.out _); exact Hlp.bp BK268.out) hb); replace BK275 := Aside0.mk (blk_below (g := gb275) (o := .cells #[.int .i64 t269, .int .i64 t270, .string t271, .string t272] 23 (0, 0)) (by refine Hlp.bp (blk_put (cs := #[.int .i64 t269, .int .i64 t270, .string t271, .string (⟨#[]⟩ : ByteArray)]) ?_ 3 _ rfl); refine Hlp.bp (blk_put (cs := #[.int .i64 t269, .int .i64 t270, .string (⟨#[]⟩ : ByteArray), .string (⟨#[]⟩ : ByteArray)]) ?_ 2 _ rfl); refine Hlp.bp (blk_put (cs := #[.int .i64 t269, .int .i64 0, .string (⟨#[]⟩ : ByteArray), .string (⟨#[]⟩ : ByteArray)]) ?_ 1 _ rfl); refine Hlp.bp (blk_put (cs := #[.int .i64 0, .int .i64 0, .string (⟨#[]⟩ : ByteArray), .string (⟨#[]⟩ : ByteArray)]) ?_ 0 _ rfl); exact Hlp.bp BK275.out) hb); replace HB := Aside0.mk (below_step (Hlp.bl HB.out) hb); (try clear hb); (try clear hb2); (try clear hk); (try clear hi); (try clear ho0); obtain ⟨Ao18, co18, eo18⟩ := Kd.R_slice HO279.out; subst eo18; have hcz19_0 : w17.cell? ⟨gb268, 0, none⟩ = some (.int .i64 0) := (blk_cell BK268.out 0).trans rfl; have hcz19_1 : w17.cell? ⟨gb268, 1, none⟩ = some (.int .i64 0) := (blk_cell BK268.out 1).trans rfl; have hcz19_2 : w17.cell? ⟨gb268, 2, none⟩ = some (.slice none 0 0) := (blk_cell BK268.out 2).trans rfl; have hfz19_0 := blk_frozen BK268.out 0; have hfz19_1 := blk_frozen BK268.out 1; have hfz19_2 := blk_frozen BK268.out 2))
         refine bodyPost_ret (results_ct rfl _ _ gb268 43 #[.int .i64 a1, .int .i64 x6_1, .slice Ao18 t277.length co18] (0, 0) _ rfl (by refine Hlp.bp (blk_put (cs := #[.int .i64 a1, .int .i64 x6_1, .slice none 0 0]) ?_ 2 _ rfl); refine Hlp.bp (blk_put (cs := #[.int .i64 a1, .int .i64 0, .slice none 0 0]) ?_ 1 _ rfl); refine Hlp.bp (blk_put (cs := #[.int .i64 0, .int .i64 0, .slice none 0 0]) ?_ 0 _ rfl); exact Hlp.bp BK268.out) Try.underlying43 rfl (by kernel_rfl)) rfl ?_
         exact ⟨_, by first | rfl | (simp [errW_none, errW_some] <;> rfl) | (simp [*, errW_none, errW_some] <;> rfl), by (with_reducible repeat (first | apply Kd.R_alloc | apply Kd.R_drewN | apply Kd.R_drew)); exact Kd.R_mono (Kd.R_far (p := ⟨gb268, 2, none⟩) (Kd.R_far (p := ⟨gb268, 1, none⟩) (Kd.R_far (p := ⟨gb268, 0, none⟩) (Kd.R_types HO279.out BK268.out (by decide)) (fun _ hk => hk.2) (.int .i64 a1)) (fun _ hk => hk.2) (.int .i64 x6_1)) (fun _ hk => hk.2) (.slice Ao18 t277.length co18)) (fun _ hk => trivial), Hlp.bl HB.out⟩
        ·
         rw [if_neg c10] at H
         exact absurd H (by simp)
       ·
        rw [if_neg c9] at H
        exact absurd H (by simp)
      ·
       rw [if_neg c8] at H
       have c8b0 : decide (65536 < t273) = false := decide_eq_false c8
       clear c8
       have H' := Aside0.mk H
       clear H
       go_wp2_with (first | ((with_reducible refine gate_callee (f := 29) rfl ?_); refine Hlp.gl (some 19) Try.func29 #[.slice A0 l0.length c0, .int .i64 x7_1] ?_; (with_reducible refine (record_Decode.calls k1 _ _ l0 x7_1 t269 t270 t271 t272 t273 t274 _ ?side1 ?side2 A5.out).mono ?_); (case side1 => exact Hlp.cp (Kd.C_below HR0.out HB.out)); (case side2 => exact HC0.out); rintro e w20 ⟨rfl, hb⟩; refine ⟨_, rfl, ?_⟩; replace BK268 := Aside0.mk (blk_below (g := gb268) (o := .cells #[.int .i64 0, .int .i64 0, .slice none 0 0] 43 (0, 0)) (Hlp.bp BK268.out) hb); replace HB := Aside0.mk (below_step (Hlp.bl HB.out) hb); (try clear hb); (try clear hb2); (try clear hk); (try clear hi)) | ((with_reducible refine gate_dst (N := 8) rfl ?_); refine Hlp.bx (N := 8) (cs := #[.int .i64 0, .int .i64 0, .string (⟨#[]⟩ : ByteArray), .string (⟨#[]⟩ : ByteArray)]) (t := 23) ?_; intro gb275 hg w21 hbox hb; have BK275 := Aside0.mk (hbox); have GW275 := Aside0.mk ((by rw [hg]; exact (below_size (Hlp.bl HB.out)) : w.heap.size ≤ gb275)); have GE275 := Aside0.mk ((by rw [hg]; exact (below_size (Hlp.bl HB.out)) : w.heap.size ≤ gb275)); replace HB := Aside0.mk (below_step (Hlp.bl HB.out) hb); have NB268_275 := Aside0.mk ((by rw [hg]; exact Nat.ne_of_lt (blk_lt (g := gb268) (o := .cells #[.int .i64 0, .int .i64 0, .slice none 0 0] 43 (0, 0)) (Hlp.bp BK268.out)) : gb268 ≠ gb275)); have NB275_268 := Aside0.mk ((by rw [hg]; exact Nat.ne_of_gt (blk_lt (g := gb268) (o := .cells #[.int .i64 0, .int .i64 0, .slice none 0 0] 43 (0, 0)) (Hlp.bp BK268.out)) : gb275 ≠ gb268)); replace BK268 := Aside0.mk (blk_below (g := gb268) (o := .cells #[.int .i64 0, .int .i64 0, .slice none 0 0] 43 (0, 0)) (Hlp.bp BK268.out) hb); clear hb hbox hg; have hnb22 := NB275_268.out; have hnc22 := NB268_275.out; have hcz23_0 : w21.cell? ⟨gb275, 0, none⟩ = some (.int .i64 0) := (blk_cell BK275.out 0).trans rfl; have hcz23_1 : w21.cell? ⟨gb275, 1, none⟩ = some (.int .i64 0) := (blk_cell BK275.out 1).trans rfl; have hcz23_2 : w21.cell? ⟨gb275, 2, none⟩ = some (.string (⟨#[]⟩ : ByteArray)) := (blk_cell BK275.out 2).trans rfl; have hcz23_3 : w21.cell? ⟨gb275, 3, none⟩ = some (.string (⟨#[]⟩ : ByteArray)) := (blk_cell BK275.out 3).trans rfl; have hfz23_0 := blk_frozen BK275.out 0; have hfz23_1 := blk_frozen BK275.out 1; have hfz23_2 := blk_frozen BK275.out 2; have hfz23_3 := blk_frozen BK275.out 3))
       go_roundg k1
       case measure => have := HK1.out; omega
       case rel => exact ⟨(wrap64 (x6_1 + 1)), (t273), (by first | rfl | (simp; done) | (simp [*]; done)), (by first | rfl | (simp; done) | (simp [*]; done)), H', ⟨by have := HK1.out; omega⟩, ⟨by refine Hlp.bp (blk_far ?_ NB268_275.out _); refine Hlp.bp (blk_far ?_ NB268_275.out _); refine Hlp.bp (blk_far ?_ NB268_275.out _); refine Hlp.bp (blk_far ?_ NB268_275.out _); exact Hlp.bp BK268.out⟩, ⟨Hlp.bl HB.out⟩⟩
     ·
      rw [if_neg c7] at H
      have c7b0 : (t269 == x6_1) = false := beq_eq_false_iff_ne.mpr c7
      have c7b1 : (t269 != x6_1) = true := bne_iff_ne.mpr c7
      by_cases c24 : 0 ≤ x7_1
      ·
       rw [if_pos c24] at H
       have c24b0 := eq_true c24
       have c24b1 : decide (0 ≤ x7_1) = true := decide_eq_true c24
       clear c24
       by_cases c25 : x7_1 ≤ (l0.length : Int)
       ·
        rw [if_pos c25] at H
        have c25b0 := eq_true c25
        have c25b1 : decide (x7_1 ≤ (l0.length : Int)) = true := decide_eq_true c25
        clear c25
        replace H := Option.bind_eq_some_iff.mp H
        obtain ⟨t281, A260, H⟩ := H
        replace H : (some (a1, x6_1, t281, x7_1)) = some (r1, r2, r3, r4) := H
        have A26 := Aside0.mk A260
        clear A260
        simp only [Option.some.injEq, Prod.mk.injEq] at H
        obtain ⟨rfl, rfl, rfl, rfl⟩ := H
        go_wp2_with (first | ((with_reducible refine gate_callee (f := 29) rfl ?_); refine Hlp.gl (some 19) Try.func29 #[.slice A0 l0.length c0, .int .i64 x7_1] ?_; (with_reducible refine (record_Decode.calls k1 _ _ l0 x7_1 t269 t270 t271 t272 t273 t274 _ ?side1 ?side2 A5.out).mono ?_); (case side1 => exact Hlp.cp (Kd.C_below HR0.out HB.out)); (case side2 => exact HC0.out); rintro e w27 ⟨rfl, hb⟩; refine ⟨_, rfl, ?_⟩; replace BK268 := Aside0.mk (blk_below (g := gb268) (o := .cells #[.int .i64 0, .int .i64 0, .slice none 0 0] 43 (0, 0)) (Hlp.bp BK268.out) hb); replace HB := Aside0.mk (below_step (Hlp.bl HB.out) hb); (try clear hb); (try clear hb2); (try clear hk); (try clear hi)) | ((with_reducible refine gate_dst (N := 8) rfl ?_); refine Hlp.bx (N := 8) (cs := #[.int .i64 0, .int .i64 0, .string (⟨#[]⟩ : ByteArray), .string (⟨#[]⟩ : ByteArray)]) (t := 23) ?_; intro gb275 hg w28 hbox hb; have BK275 := Aside0.mk (hbox); have GW275 := Aside0.mk ((by rw [hg]; exact (below_size (Hlp.bl HB.out)) : w.heap.size ≤ gb275)); have GE275 := Aside0.mk ((by rw [hg]; exact (below_size (Hlp.bl HB.out)) : w.heap.size ≤ gb275)); replace HB := Aside0.mk (below_step (Hlp.bl HB.out) hb); have NB268_275 := Aside0.mk ((by rw [hg]; exact Nat.ne_of_lt (blk_lt (g := gb268) (o := .cells #[.int .i64 0, .int .i64 0, .slice none 0 0] 43 (0, 0)) (Hlp.bp BK268.out)) : gb268 ≠ gb275)); have NB275_268 := Aside0.mk ((by rw [hg]; exact Nat.ne_of_gt (blk_lt (g := gb268) (o := .cells #[.int .i64 0, .int .i64 0, .slice none 0 0] 43 (0, 0)) (Hlp.bp BK268.out)) : gb275 ≠ gb268)); replace BK268 := Aside0.mk (blk_below (g := gb268) (o := .cells #[.int .i64 0, .int .i64 0, .slice none 0 0] 43 (0, 0)) (Hlp.bp BK268.out) hb); clear hb hbox hg; have hnb29 := NB275_268.out; have hnc29 := NB268_275.out; have hcz30_0 : w28.cell? ⟨gb275, 0, none⟩ = some (.int .i64 0) := (blk_cell BK275.out 0).trans rfl; have hcz30_1 : w28.cell? ⟨gb275, 1, none⟩ = some (.int .i64 0) := (blk_cell BK275.out 1).trans rfl; have hcz30_2 : w28.cell? ⟨gb275, 2, none⟩ = some (.string (⟨#[]⟩ : ByteArray)) := (blk_cell BK275.out 2).trans rfl; have hcz30_3 : w28.cell? ⟨gb275, 3, none⟩ = some (.string (⟨#[]⟩ : ByteArray)) := (blk_cell BK275.out 3).trans rfl; have hfz30_0 := blk_frozen BK275.out 0; have hfz30_1 := blk_frozen BK275.out 1; have hfz30_2 := blk_frozen BK275.out 2; have hfz30_3 := blk_frozen BK275.out 3; obtain ⟨i031, hi031, _, hsz31, _⟩ := info_parts info5; obtain ⟨hcut31, hA31, hC31⟩ := print_take_of (P := Try.prog) (Value.int .u8) 0 28 5 .i64 Try.underlying28 hi031 hsz31 A0 c0 l0 x7_1 (of_decide_eq_true (by first | (with_reducible assumption) | assumption)) (of_decide_eq_true (by first | (with_reducible assumption) | assumption)) HC0.out; have HR280 := Aside0.mk (Kd.C_of_reads (h1 := fun _ => rfl) (hA31 _ (Kd.reads_of_C HR0.out))); have HC280 := Aside0.mk hC31; clear hA31 hC31 hi031 hsz31) | ((with_reducible refine gate_callee (f := 78) rfl ?_); refine goesL_ (some 43) rfl rfl Try.func78 (by kernel_rfl) rfl #[.slice A0 (l0.take (x7_1 : Int).toNat).length c0, .slice none 0 0] rfl (by (try simp only [List.map_toArray, List.map_cons, List.map_nil]); first | done | (rw [show (l0.take (x7_1 : Int).toNat).length = x7_1.toNat from (by rw [List.length_take]; have h_ : (x7_1 : Int) ≤ (l0.length : Int) := of_decide_eq_true (by first | (with_reducible assumption) | assumption); omega)] <;> rfl) | rfl | (simp only [List.length_drop, List.length_take]; rfl)) ?_; (refine (segment_owned.calls _ _ (l0.take (x7_1 : Int).toNat) _ _ ([] : List Int) t281 _ ?side1 ?side2 ?side3 ?side4 A26.out).mono ?_); (case side1 => exact Kd.C_below HR280.out (Hlp.bl HB.out)); (case side2 => exact HC280.out); (case side3 => exact Kd.C_nil _ _); (case side4 => exact Nat.le_refl _); rintro e w32 ⟨v282, rfl, ho0, hb⟩; refine ⟨_, rfl, ?_⟩; have HO283 := Aside0.mk (Kd.R_lower ho0 (below_size (Hlp.bl HB.out))); replace BK268 := Aside0.mk (blk_below (g := gb268) (o := .cells #[.int .i64 0, .int .i64 0, .slice none 0 0] 43 (0, 0)) (by refine Hlp.bp (blk_far ?_ NB268_275.out _); refine Hlp.bp (blk_far ?_ NB268_275.out _); refine Hlp.bp (blk_far ?_ NB268_275.out _); refine Hlp.bp (blk_far ?_ NB268_275.out _); exact Hlp.bp BK268.out) hb); replace BK275 := Aside0.mk (blk_below (g := gb275) (o := .cells #[.int .i64 t269, .int .i64 t270, .string t271, .string t272] 23 (0, 0)) (by refine Hlp.bp (blk_put (cs := #[.int .i64 t269, .int .i64 t270, .string t271, .string (⟨#[]⟩ : ByteArray)]) ?_ 3 _ rfl); refine Hlp.bp (blk_put (cs := #[.int .i64 t269, .int .i64 t270, .string (⟨#[]⟩ : ByteArray), .string (⟨#[]⟩ : ByteArray)]) ?_ 2 _ rfl); refine Hlp.bp (blk_put (cs := #[.int .i64 t269, .int .i64 0, .string (⟨#[]⟩ : ByteArray), .string (⟨#[]⟩ : ByteArray)]) ?_ 1 _ rfl); refine Hlp.bp (blk_put (cs := #[.int .i64 0, .int .i64 0, .string (⟨#[]⟩ : ByteArray), .string (⟨#[]⟩ : ByteArray)]) ?_ 0 _ rfl); exact Hlp.bp BK275.out) hb); replace HB := Aside0.mk (below_step (Hlp.bl HB.out) hb); (try clear hb); (try clear hb2); (try clear hk); (try clear hi); (try clear ho0); obtain ⟨Ao33, co33, eo33⟩ := Kd.R_slice HO283.out; subst eo33; have hcz34_0 : w32.cell? ⟨gb268, 0, none⟩ = some (.int .i64 0) := (blk_cell BK268.out 0).trans rfl; have hcz34_1 : w32.cell? ⟨gb268, 1, none⟩ = some (.int .i64 0) := (blk_cell BK268.out 1).trans rfl; have hcz34_2 : w32.cell? ⟨gb268, 2, none⟩ = some (.slice none 0 0) := (blk_cell BK268.out 2).trans rfl; have hfz34_0 := blk_frozen BK268.out 0; have hfz34_1 := blk_frozen BK268.out 1; have hfz34_2 := blk_frozen BK268.out 2))
        refine bodyPost_ret (results_ct rfl _ _ gb268 43 #[.int .i64 a1, .int .i64 x6_1, .slice Ao33 t281.length co33] (0, 0) _ rfl (by refine Hlp.bp (blk_put (cs := #[.int .i64 a1, .int .i64 x6_1, .slice none 0 0]) ?_ 2 _ rfl); refine Hlp.bp (blk_put (cs := #[.int .i64 a1, .int .i64 0, .slice none 0 0]) ?_ 1 _ rfl); refine Hlp.bp (blk_put (cs := #[.int .i64 0, .int .i64 0, .slice none 0 0]) ?_ 0 _ rfl); exact Hlp.bp BK268.out) Try.underlying43 rfl (by kernel_rfl)) rfl ?_
        exact ⟨_, by first | rfl | (simp [errW_none, errW_some] <;> rfl) | (simp [*, errW_none, errW_some] <;> rfl), by (with_reducible repeat (first | apply Kd.R_alloc | apply Kd.R_drewN | apply Kd.R_drew)); exact Kd.R_mono (Kd.R_far (p := ⟨gb268, 2, none⟩) (Kd.R_far (p := ⟨gb268, 1, none⟩) (Kd.R_far (p := ⟨gb268, 0, none⟩) (Kd.R_types HO283.out BK268.out (by decide)) (fun _ hk => hk.2) (.int .i64 a1)) (fun _ hk => hk.2) (.int .i64 x6_1)) (fun _ hk => hk.2) (.slice Ao33 t281.length co33)) (fun _ hk => trivial), Hlp.bl HB.out⟩
       ·
        rw [if_neg c25] at H
        exact absurd H (by simp)
      ·
       rw [if_neg c24] at H
       exact absurd H (by simp)
    ·
     rw [if_neg c6] at H
     have c6b0 : (t274 == 0) = false := beq_eq_false_iff_ne.mpr c6
     have c6b1 : (t274 != 0) = true := bne_iff_ne.mpr c6
     by_cases c35 : 0 ≤ x7_1
     ·
      rw [if_pos c35] at H
      have c35b0 := eq_true c35
      have c35b1 : decide (0 ≤ x7_1) = true := decide_eq_true c35
      clear c35
      by_cases c36 : x7_1 ≤ (l0.length : Int)
      ·
       rw [if_pos c36] at H
       have c36b0 := eq_true c36
       have c36b1 : decide (x7_1 ≤ (l0.length : Int)) = true := decide_eq_true c36
       clear c36
       replace H := Option.bind_eq_some_iff.mp H
       obtain ⟨t285, A370, H⟩ := H
       replace H : (some (a1, x6_1, t285, x7_1)) = some (r1, r2, r3, r4) := H
       have A37 := Aside0.mk A370
       clear A370
       simp only [Option.some.injEq, Prod.mk.injEq] at H
       obtain ⟨rfl, rfl, rfl, rfl⟩ := H
       go_wp2_with (first | ((with_reducible refine gate_callee (f := 29) rfl ?_); refine Hlp.gl (some 19) Try.func29 #[.slice A0 l0.length c0, .int .i64 x7_1] ?_; (with_reducible refine (record_Decode.calls k1 _ _ l0 x7_1 t269 t270 t271 t272 t273 t274 _ ?side1 ?side2 A5.out).mono ?_); (case side1 => exact Hlp.cp (Kd.C_below HR0.out HB.out)); (case side2 => exact HC0.out); rintro e w38 ⟨rfl, hb⟩; refine ⟨_, rfl, ?_⟩; replace BK268 := Aside0.mk (blk_below (g := gb268) (o := .cells #[.int .i64 0, .int .i64 0, .slice none 0 0] 43 (0, 0)) (Hlp.bp BK268.out) hb); replace HB := Aside0.mk (below_step (Hlp.bl HB.out) hb); (try clear hb); (try clear hb2); (try clear hk); (try clear hi)) | ((with_reducible refine gate_dst (N := 8) rfl ?_); refine Hlp.bx (N := 8) (cs := #[.int .i64 0, .int .i64 0, .string (⟨#[]⟩ : ByteArray), .string (⟨#[]⟩ : ByteArray)]) (t := 23) ?_; intro gb275 hg w39 hbox hb; have BK275 := Aside0.mk (hbox); have GW275 := Aside0.mk ((by rw [hg]; exact (below_size (Hlp.bl HB.out)) : w.heap.size ≤ gb275)); have GE275 := Aside0.mk ((by rw [hg]; exact (below_size (Hlp.bl HB.out)) : w.heap.size ≤ gb275)); replace HB := Aside0.mk (below_step (Hlp.bl HB.out) hb); have NB268_275 := Aside0.mk ((by rw [hg]; exact Nat.ne_of_lt (blk_lt (g := gb268) (o := .cells #[.int .i64 0, .int .i64 0, .slice none 0 0] 43 (0, 0)) (Hlp.bp BK268.out)) : gb268 ≠ gb275)); have NB275_268 := Aside0.mk ((by rw [hg]; exact Nat.ne_of_gt (blk_lt (g := gb268) (o := .cells #[.int .i64 0, .int .i64 0, .slice none 0 0] 43 (0, 0)) (Hlp.bp BK268.out)) : gb275 ≠ gb268)); replace BK268 := Aside0.mk (blk_below (g := gb268) (o := .cells #[.int .i64 0, .int .i64 0, .slice none 0 0] 43 (0, 0)) (Hlp.bp BK268.out) hb); clear hb hbox hg; have hnb40 := NB275_268.out; have hnc40 := NB268_275.out; have hcz41_0 : w39.cell? ⟨gb275, 0, none⟩ = some (.int .i64 0) := (blk_cell BK275.out 0).trans rfl; have hcz41_1 : w39.cell? ⟨gb275, 1, none⟩ = some (.int .i64 0) := (blk_cell BK275.out 1).trans rfl; have hcz41_2 : w39.cell? ⟨gb275, 2, none⟩ = some (.string (⟨#[]⟩ : ByteArray)) := (blk_cell BK275.out 2).trans rfl; have hcz41_3 : w39.cell? ⟨gb275, 3, none⟩ = some (.string (⟨#[]⟩ : ByteArray)) := (blk_cell BK275.out 3).trans rfl; have hfz41_0 := blk_frozen BK275.out 0; have hfz41_1 := blk_frozen BK275.out 1; have hfz41_2 := blk_frozen BK275.out 2; have hfz41_3 := blk_frozen BK275.out 3; obtain ⟨i042, hi042, _, hsz42, _⟩ := info_parts info5; obtain ⟨hcut42, hA42, hC42⟩ := print_take_of (P := Try.prog) (Value.int .u8) 0 28 5 .i64 Try.underlying28 hi042 hsz42 A0 c0 l0 x7_1 (of_decide_eq_true (by first | (with_reducible assumption) | assumption)) (of_decide_eq_true (by first | (with_reducible assumption) | assumption)) HC0.out; have HR284 := Aside0.mk (Kd.C_of_reads (h1 := fun _ => rfl) (hA42 _ (Kd.reads_of_C HR0.out))); have HC284 := Aside0.mk hC42; clear hA42 hC42 hi042 hsz42) | ((with_reducible refine gate_callee (f := 78) rfl ?_); refine goesL_ (some 43) rfl rfl Try.func78 (by kernel_rfl) rfl #[.slice A0 (l0.take (x7_1 : Int).toNat).length c0, .slice none 0 0] rfl (by (try simp only [List.map_toArray, List.map_cons, List.map_nil]); first | done | (rw [show (l0.take (x7_1 : Int).toNat).length = x7_1.toNat from (by rw [List.length_take]; have h_ : (x7_1 : Int) ≤ (l0.length : Int) := of_decide_eq_true (by first | (with_reducible assumption) | assumption); omega)] <;> rfl) | rfl | (simp only [List.length_drop, List.length_take]; rfl)) ?_; (refine (segment_owned.calls _ _ (l0.take (x7_1 : Int).toNat) _ _ ([] : List Int) t285 _ ?side1 ?side2 ?side3 ?side4 A37.out).mono ?_); (case side1 => exact Kd.C_below HR284.out (Hlp.bl HB.out)); (case side2 => exact HC284.out); (case side3 => exact Kd.C_nil _ _); (case side4 => exact Nat.le_refl _); rintro e w43 ⟨v286, rfl, ho0, hb⟩; refine ⟨_, rfl, ?_⟩; have HO287 := Aside0.mk (Kd.R_lower ho0 (below_size (Hlp.bl HB.out))); replace BK268 := Aside0.mk (blk_below (g := gb268) (o := .cells #[.int .i64 0, .int .i64 0, .slice none 0 0] 43 (0, 0)) (by refine Hlp.bp (blk_far ?_ NB268_275.out _); refine Hlp.bp (blk_far ?_ NB268_275.out _); refine Hlp.bp (blk_far ?_ NB268_275.out _); refine Hlp.bp (blk_far ?_ NB268_275.out _); exact Hlp.bp BK268.out) hb); replace BK275 := Aside0.mk (blk_below (g := gb275) (o := .cells #[.int .i64 t269, .int .i64 t270, .string t271, .string t272] 23 (0, 0)) (by refine Hlp.bp (blk_put (cs := #[.int .i64 t269, .int .i64 t270, .string t271, .string (⟨#[]⟩ : ByteArray)]) ?_ 3 _ rfl); refine Hlp.bp (blk_put (cs := #[.int .i64 t269, .int .i64 t270, .string (⟨#[]⟩ : ByteArray), .string (⟨#[]⟩ : ByteArray)]) ?_ 2 _ rfl); refine Hlp.bp (blk_put (cs := #[.int .i64 t269, .int .i64 0, .string (⟨#[]⟩ : ByteArray), .string (⟨#[]⟩ : ByteArray)]) ?_ 1 _ rfl); refine Hlp.bp (blk_put (cs := #[.int .i64 0, .int .i64 0, .string (⟨#[]⟩ : ByteArray), .string (⟨#[]⟩ : ByteArray)]) ?_ 0 _ rfl); exact Hlp.bp BK275.out) hb); replace HB := Aside0.mk (below_step (Hlp.bl HB.out) hb); (try clear hb); (try clear hb2); (try clear hk); (try clear hi); (try clear ho0); obtain ⟨Ao44, co44, eo44⟩ := Kd.R_slice HO287.out; subst eo44; have hcz45_0 : w43.cell? ⟨gb268, 0, none⟩ = some (.int .i64 0) := (blk_cell BK268.out 0).trans rfl; have hcz45_1 : w43.cell? ⟨gb268, 1, none⟩ = some (.int .i64 0) := (blk_cell BK268.out 1).trans rfl; have hcz45_2 : w43.cell? ⟨gb268, 2, none⟩ = some (.slice none 0 0) := (blk_cell BK268.out 2).trans rfl; have hfz45_0 := blk_frozen BK268.out 0; have hfz45_1 := blk_frozen BK268.out 1; have hfz45_2 := blk_frozen BK268.out 2))
       refine bodyPost_ret (results_ct rfl _ _ gb268 43 #[.int .i64 a1, .int .i64 x6_1, .slice Ao44 t285.length co44] (0, 0) _ rfl (by refine Hlp.bp (blk_put (cs := #[.int .i64 a1, .int .i64 x6_1, .slice none 0 0]) ?_ 2 _ rfl); refine Hlp.bp (blk_put (cs := #[.int .i64 a1, .int .i64 0, .slice none 0 0]) ?_ 1 _ rfl); refine Hlp.bp (blk_put (cs := #[.int .i64 0, .int .i64 0, .slice none 0 0]) ?_ 0 _ rfl); exact Hlp.bp BK268.out) Try.underlying43 rfl (by kernel_rfl)) rfl ?_
       exact ⟨_, by first | rfl | (simp [errW_none, errW_some] <;> rfl) | (simp [*, errW_none, errW_some] <;> rfl), by (with_reducible repeat (first | apply Kd.R_alloc | apply Kd.R_drewN | apply Kd.R_drew)); exact Kd.R_mono (Kd.R_far (p := ⟨gb268, 2, none⟩) (Kd.R_far (p := ⟨gb268, 1, none⟩) (Kd.R_far (p := ⟨gb268, 0, none⟩) (Kd.R_types HO287.out BK268.out (by decide)) (fun _ hk => hk.2) (.int .i64 a1)) (fun _ hk => hk.2) (.int .i64 x6_1)) (fun _ hk => hk.2) (.slice Ao44 t285.length co44)) (fun _ hk => trivial), Hlp.bl HB.out⟩
      ·
       rw [if_neg c36] at H
       exact absurd H (by simp)
     ·
      rw [if_neg c35] at H
      exact absurd H (by simp)
   ·
    rw [if_neg c4] at H
    have c4b0 : decide (x7_1 < (l0.length : Int)) = false := decide_eq_false c4
    clear c4
    by_cases c46 : 0 ≤ x7_1
    ·
     rw [if_pos c46] at H
     have c46b0 := eq_true c46
     have c46b1 : decide (0 ≤ x7_1) = true := decide_eq_true c46
     clear c46
     by_cases c47 : x7_1 ≤ (l0.length : Int)
     ·
      rw [if_pos c47] at H
      have c47b0 := eq_true c47
      have c47b1 : decide (x7_1 ≤ (l0.length : Int)) = true := decide_eq_true c47
      clear c47
      replace H := Option.bind_eq_some_iff.mp H
      obtain ⟨t289, A480, H⟩ := H
      replace H : (some (a1, x6_1, t289, x7_1)) = some (r1, r2, r3, r4) := H
      have A48 := Aside0.mk A480
      clear A480
      simp only [Option.some.injEq, Prod.mk.injEq] at H
      obtain ⟨rfl, rfl, rfl, rfl⟩ := H
      obtain ⟨i049, hi049, _, hsz49, _⟩ := info_parts info5
      obtain ⟨hcut49, hA49, hC49⟩ := print_take_of (P := Try.prog) (Value.int .u8) 0 28 5 .i64 Try.underlying28 hi049 hsz49 A0 c0 l0 x7_1 (of_decide_eq_true (by first | (with_reducible assumption) | assumption)) (of_decide_eq_true (by first | (with_reducible assumption) | assumption)) HC0.out
      have HR288 := Aside0.mk (Kd.C_of_reads (h1 := fun _ => rfl) (hA49 _ (Kd.reads_of_C HR0.out)))
      have HC288 := Aside0.mk hC49
      clear hA49 hC49 hi049 hsz49
      go_wp2_with (first | ((with_reducible refine gate_callee (f := 78) rfl ?_); refine goesL_ (some 43) rfl rfl Try.func78 (by kernel_rfl) rfl #[.slice A0 (l0.take (x7_1 : Int).toNat).length c0, .slice none 0 0] rfl (by (try simp only [List.map_toArray, List.map_cons, List.map_nil]); first | done | (rw [show (l0.take (x7_1 : Int).toNat).length = x7_1.toNat from (by rw [List.length_take]; have h_ : (x7_1 : Int) ≤ (l0.length : Int) := of_decide_eq_true (by first | (with_reducible assumption) | assumption); omega)] <;> rfl) | rfl | (simp only [List.length_drop, List.length_take]; rfl)) ?_; (refine (segment_owned.calls _ _ (l0.take (x7_1 : Int).toNat) _ _ ([] : List Int) t289 _ ?side1 ?side2 ?side3 ?side4 A48.out).mono ?_); (case side1 => exact Hlp.cp (Kd.C_below HR288.out HB.out)); (case side2 => exact HC288.out); (case side3 => exact Kd.C_nil _ _); (case side4 => exact Nat.le_refl _); rintro e w50 ⟨v290, rfl, ho0, hb⟩; refine ⟨_, rfl, ?_⟩; have HO291 := Aside0.mk (Kd.R_lower ho0 (below_size (Hlp.bl HB.out))); replace BK268 := Aside0.mk (blk_below (g := gb268) (o := .cells #[.int .i64 0, .int .i64 0, .slice none 0 0] 43 (0, 0)) (Hlp.bp BK268.out) hb); replace HB := Aside0.mk (below_step (Hlp.bl HB.out) hb); (try clear hb); (try clear hb2); (try clear hk); (try clear hi); (try clear ho0); obtain ⟨Ao51, co51, eo51⟩ := Kd.R_slice HO291.out; subst eo51; have hcz52_0 : w50.cell? ⟨gb268, 0, none⟩ = some (.int .i64 0) := (blk_cell BK268.out 0).trans rfl; have hcz52_1 : w50.cell? ⟨gb268, 1, none⟩ = some (.int .i64 0) := (blk_cell BK268.out 1).trans rfl; have hcz52_2 : w50.cell? ⟨gb268, 2, none⟩ = some (.slice none 0 0) := (blk_cell BK268.out 2).trans rfl; have hfz52_0 := blk_frozen BK268.out 0; have hfz52_1 := blk_frozen BK268.out 1; have hfz52_2 := blk_frozen BK268.out 2))
      refine bodyPost_ret (results_ct rfl _ _ gb268 43 #[.int .i64 a1, .int .i64 x6_1, .slice Ao51 t289.length co51] (0, 0) _ rfl (by refine Hlp.bp (blk_put (cs := #[.int .i64 a1, .int .i64 x6_1, .slice none 0 0]) ?_ 2 _ rfl); refine Hlp.bp (blk_put (cs := #[.int .i64 a1, .int .i64 0, .slice none 0 0]) ?_ 1 _ rfl); refine Hlp.bp (blk_put (cs := #[.int .i64 0, .int .i64 0, .slice none 0 0]) ?_ 0 _ rfl); exact Hlp.bp BK268.out) Try.underlying43 rfl (by kernel_rfl)) rfl ?_
      exact ⟨_, by first | rfl | (simp [errW_none, errW_some] <;> rfl) | (simp [*, errW_none, errW_some] <;> rfl), by (with_reducible repeat (first | apply Kd.R_alloc | apply Kd.R_drewN | apply Kd.R_drew)); exact Kd.R_mono (Kd.R_far (p := ⟨gb268, 2, none⟩) (Kd.R_far (p := ⟨gb268, 1, none⟩) (Kd.R_far (p := ⟨gb268, 0, none⟩) (Kd.R_types HO291.out BK268.out (by decide)) (fun _ hk => hk.2) (.int .i64 a1)) (fun _ hk => hk.2) (.int .i64 x6_1)) (fun _ hk => hk.2) (.slice Ao51 t289.length co51)) (fun _ hk => trivial), Hlp.bl HB.out⟩
     ·
      rw [if_neg c47] at H
      exact absurd H (by simp)
    ·
     rw [if_neg c46] at H
     exact absurd H (by simp)

end Go.Proofs.Ytkkelbakadbbhaa.J
