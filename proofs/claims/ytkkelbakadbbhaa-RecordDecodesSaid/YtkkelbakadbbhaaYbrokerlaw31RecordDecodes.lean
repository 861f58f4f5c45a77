/- Lean functions that compute what the Go functions named below compute; each theorem '.calls': if its Lean function has an answer, the Go function returns it. -/
import Derived.Test.YtkkelbakadbbhaaYx0
import Derived.Test.YtkkelbakadbbhaaH
import Derived.Test.YtkkelbakadbbhaaYbrokerlaw31awake
import Derived.Test.YtkkelbakadbbhaaYeq0
import Derived.Test.YtkkelbakadbbhaaYrecord2
import Derived.Test.YtkkelbakadbbhaaYref312
namespace Go.Proofs.Ytkkelbakadbbhaa.J
open Go.RowKit Go.Proofs.YtkkelbakadbbhaaW.PrintWords Go.Proofs.YtkkelbakadbbhaaW.PrintLast Go.Proofs.YtkkelbakadbbhaaW.PrintMore
attribute [local go_sem] max2_int min2_int max_two min_two max_three min_three max_four min_four   -- for this text's walks alone
set_option linter.unusedVariables false
set_option linter.unusedSimpArgs false

attribute [local go_sem high] eqA23
/-! ### brokerlaw31_RecordDecodes: function 5 -/
def brokerlaw31_RecordDecodes.f (k : Nat) (l0 : List Int) (a1 : Int) : Option (Bool) := if (l0.length : Int) > 5000 then ((brokerlaw31_awake.f k).bind fun t354 => (some t354)) else ((record_Decode.f k l0 a1).bind fun bt355 => ((brokerref31_Decode.f k l0 a1).bind fun bt362 => (if (bt355.1 == bt362.1 && (bt355.2.1 == bt362.2.1 && (bt355.2.2.1.toList == bt362.2.2.1.toList && (bt355.2.2.2.1.toList == bt362.2.2.2.1.toList)))) = true then (if bt355.2.2.2.2.1 = bt362.2.2.2.2.1 then (if bt355.2.2.2.2.2 = bt362.2.2.2.2.2 then ((brokerlaw31_awake.f k).bind fun t369 => (some t369)) else (none)) else (none)) else (none))))
theorem brokerlaw31_RecordDecodes.mono : ∀ a0 a1 k, LeO (brokerlaw31_RecordDecodes.f k a0 a1) (brokerlaw31_RecordDecodes.f (k + 1) a0 a1) := by
 intro a0 a1 k
 unfold brokerlaw31_RecordDecodes.f
 repeat' first
  | (with_reducible exact brokerlaw31_awake.mono _)
  | (with_reducible exact brokerref31_Decode.mono _ _ _)
  | (with_reducible exact record_Decode.mono _ _ _)
  | (with_reducible exact LeO.refl _)
  | (with_reducible exact LeO.none _)
  | (with_reducible refine LeO.ite ?_ ?_)
  | (with_reducible refine LeO.bind ?_ (fun _ => ?_))
  | exact brokerlaw31_awake.mono _
  | exact brokerref31_Decode.mono _ _ _
  | exact record_Decode.mono _ _ _
  | exact LeO.none _
  | refine LeO.ite ?_ ?_
  | refine LeO.bind ?_ (fun _ => ?_)
set_option maxHeartbeats 8000000 in
set_option maxRecDepth 100000 in
theorem brokerlaw31_RecordDecodes.calls (k : Nat) (A0 : Option Addr) (c0 : Nat) (l0 : List Int) (a1 : Int) (r : Bool) (w : World) (hr0 : Kd.C (Kd.int .u8) w A0 l0.length l0) (hc0 : l0.length ≤ c0) (h : brokerlaw31_RecordDecodes.f k l0 a1 = some r) :
 Calls Try.prog 5 #[.slice A0 l0.length c0, .int .i64 a1] w fun e w' => e = .returned (.bool r) ∧ Below w.heap.size w w' := by
 have hu23 := Try.underlying23
 have HR0 := Aside0.mk hr0
 have HC0 := Aside0.mk hc0
 clear hr0 hc0
 have HB := Aside0.mk (Below.refl w.heap.size w)
 have H : (if (l0.length : Int) > 5000 then ((brokerlaw31_awake.f k).bind fun t354 => (some t354)) else ((record_Decode.f k l0 a1).bind fun bt355 => ((brokerref31_Decode.f k l0 a1).bind fun bt362 => (if (bt355.1 == bt362.1 && (bt355.2.1 == bt362.2.1 && (bt355.2.2.1.toList == bt362.2.2.1.toList && (bt355.2.2.2.1.toList == bt362.2.2.2.1.toList)))) = true then (if bt355.2.2.2.2.1 = bt362.2.2.2.2.1 then (if bt355.2.2.2.2.2 = bt362.2.2.2.2.2 then ((brokerlaw31_awake.f k).bind fun t369 => (some t369)) else (none)) else (none)) else (none))))) = some r := h
 clear h
 by_cases c3 : (l0.length : Int) > 5000
 ·
  rw [if_pos c3] at H
  have c3b0 : decide (5000 < (l0.length : Int)) = true := decide_eq_true c3
  have c3b1 : decide (5000 < l0.length) = true := decide_eq_true (by omega)
  clear c3
  replace H := Option.bind_eq_some_iff.mp H
  obtain ⟨t354, A40, H⟩ := H
  replace H : (some t354) = some r := H
  have A4 := Aside0.mk A40
  clear A40
  obtain rfl := Option.some.inj H
  go_enter Try.func5, Try.ntmps5
  go_wp2_with (first | ((with_reducible refine gate_callee (f := 24) rfl ?_); refine Hlp.gl (some 14) Try.func24 #[] ?_; (with_reducible refine (brokerlaw31_awake.calls k  t354 _ A4.out).mono ?_); rintro e w5 ⟨rfl, hb⟩; refine ⟨_, rfl, ?_⟩; replace HB := Aside0.mk (below_step (Hlp.bl HB.out) hb); (try clear hb); (try clear hb2); (try clear hk); (try clear hi)))
  go_ret
  exact ⟨by first | rfl | (simp [errW_none, errW_some] <;> rfl) | (simp [*, errW_none, errW_some] <;> rfl), Hlp.bl HB.out⟩
 ·
  rw [if_neg c3] at H
  have c3b0 : decide (5000 < (l0.length : Int)) = false := decide_eq_false c3
  have c3b1 : decide (5000 < l0.length) = false := decide_eq_false (by omega)
  clear c3
  replace H := Option.bind_eq_some_iff.mp H
  obtain ⟨⟨t355, t356, t357, t358, t359, t360⟩, A60, H⟩ := H
  replace H : ((brokerref31_Decode.f k l0 a1).bind fun bt362 => (if (t355 == bt362.1 && (t356 == bt362.2.1 && (t357.toList == bt362.2.2.1.toList && (t358.toList == bt362.2.2.2.1.toList)))) = true then (if t359 = bt362.2.2.2.2.1 then (if t360 = bt362.2.2.2.2.2 then ((brokerlaw31_awake.f k).bind fun t369 => (some t369)) else (none)) else (none)) else (none))) = some r := H
  have A6 := Aside0.mk A60
  clear A60
  replace H := Option.bind_eq_some_iff.mp H
  obtain ⟨⟨t362, t363, t364, t365, t366, t367⟩, A70, H⟩ := H
  replace H : (if (t355 == t362 && (t356 == t363 && (t357.toList == t364.toList && (t358.toList == t365.toList)))) = true then (if t359 = t366 then (if t360 = t367 then ((brokerlaw31_awake.f k).bind fun t369 => (some t369)) else (none)) else (none)) else (none)) = some r := H
  have A7 := Aside0.mk A70
  clear A70
  by_cases c8 : (t355 == t362 && (t356 == t363 && (t357.toList == t364.toList && (t358.toList == t365.toList)))) = true
  ·
   rw [if_pos c8] at H
   have c8b0 : (t355 == t362 && (t356 == t363 && (t357.toList == t364.toList && (t358.toList == t365.toList)))) = true := c8
   (try (have c8b1 : decide (t355 = t362 && (t356 == t363 && (t357.toList == t364.toList && (t358.toList == t365.toList)))) = true := by simpa using c8))
   (try (have c8b2 : (t355 == t362 && (t356 == t363 && (t357.toList == t364.toList && (t358.toList == t365.toList)))) = true := by simpa using c8))
   clear c8
   by_cases c9 : t359 = t366
   ·
    rw [if_pos c9] at H
    have c9b0 : (t359 == t366) = true := beq_iff_eq.mpr c9
    have c9b1 : (t359 != t366) = false := bne_eq_false_iff_eq.mpr c9
    clear c9
    by_cases c10 : t360 = t367
    ·
     rw [if_pos c10] at H
     have c10b0 : (t360 == t367) = true := beq_iff_eq.mpr c10
     have c10b1 : (t360 != t367) = false := bne_eq_false_iff_eq.mpr c10
     clear c10
     replace H := Option.bind_eq_some_iff.mp H
     obtain ⟨t369, A110, H⟩ := H
     replace H : (some t369) = some r := H
     have A11 := Aside0.mk A110
     clear A110
     obtain rfl := Option.some.inj H
     go_enter Try.func5, Try.ntmps5
     go_wp2_with (first | ((with_reducible refine gate_callee (f := 29) rfl ?_); refine Hlp.gl (some 18) Try.func29 #[.slice A0 l0.length c0, .int .i64 a1] ?_; (with_reducible refine (record_Decode.calls k _ _ l0 a1 t355 t356 t357 t358 t359 t360 _ ?side1 ?side2 A6.out).mono ?_); (case side1 => exact Hlp.cp HR0.out); (case side2 => exact HC0.out); rintro e w12 ⟨rfl, hb⟩; refine ⟨_, rfl, ?_⟩; replace HB := Aside0.mk (below_step (Hlp.bl HB.out) hb); (try clear hb); (try clear hb2); (try clear hk); (try clear hi)) | ((with_reducible refine gate_dst (N := 5) rfl ?_); refine Hlp.bx (N := 5) (cs := #[.int .i64 0, .int .i64 0, .string (⟨#[]⟩ : ByteArray), .string (⟨#[]⟩ : ByteArray)]) (t := 23) ?_; intro gb361 hg w13 hbox hb; have BK361 := Aside0.mk (hbox); have GW361 := Aside0.mk ((by rw [hg]; exact (below_size (Hlp.bl HB.out)) : w.heap.size ≤ gb361)); have GE361 := Aside0.mk ((by rw [hg]; exact (below_size (Hlp.bl HB.out)) : w.heap.size ≤ gb361)); replace HB := Aside0.mk (below_step (Hlp.bl HB.out) hb); clear hb hbox hg; have hcz14_0 : w13.cell? ⟨gb361, 0, none⟩ = some (.int .i64 0) := (blk_cell BK361.out 0).trans rfl; have hcz14_1 : w13.cell? ⟨gb361, 1, none⟩ = some (.int .i64 0) := (blk_cell BK361.out 1).trans rfl; have hcz14_2 : w13.cell? ⟨gb361, 2, none⟩ = some (.string (⟨#[]⟩ : ByteArray)) := (blk_cell BK361.out 2).trans rfl; have hcz14_3 : w13.cell? ⟨gb361, 3, none⟩ = some (.string (⟨#[]⟩ : ByteArray)) := (blk_cell BK361.out 3).trans rfl; have hfz14_0 := blk_frozen BK361.out 0; have hfz14_1 := blk_frozen BK361.out 1; have hfz14_2 := blk_frozen BK361.out 2; have hfz14_3 := blk_frozen BK361.out 3) | ((with_reducible refine gate_callee (f := 30) rfl ?_); refine Hlp.gl (some 25) Try.func30 #[.slice A0 l0.length c0, .int .i64 a1] ?_; (with_reducible refine (brokerref31_Decode.calls k _ _ l0 a1 t362 t363 t364 t365 t366 t367 _ ?side1 ?side2 A7.out).mono ?_); (case side1 => exact Kd.C_below HR0.out (Hlp.bl HB.out)); (case side2 => exact HC0.out); rintro e w15 ⟨rfl, hb⟩; refine ⟨_, rfl, ?_⟩; replace BK361 := Aside0.mk (blk_below (g := gb361) (o := .cells #[.int .i64 t355, .int .i64 t356, .string t357, .string t358] 23 (0, 0)) (by refine Hlp.bp (blk_put (cs := #[.int .i64 t355, .int .i64 t356, .string t357, .string (⟨#[]⟩ : ByteArray)]) ?_ 3 _ rfl); refine Hlp.bp (blk_put (cs := #[.int .i64 t355, .int .i64 t356, .string (⟨#[]⟩ : ByteArray), .string (⟨#[]⟩ : ByteArray)]) ?_ 2 _ rfl); refine Hlp.bp (blk_put (cs := #[.int .i64 t355, .int .i64 0, .string (⟨#[]⟩ : ByteArray), .string (⟨#[]⟩ : ByteArray)]) ?_ 1 _ rfl); refine Hlp.bp (blk_put (cs := #[.int .i64 0, .int .i64 0, .string (⟨#[]⟩ : ByteArray), .string (⟨#[]⟩ : ByteArray)]) ?_ 0 _ rfl); exact Hlp.bp BK361.out) hb); replace HB := Aside0.mk (below_step (Hlp.bl HB.out) hb); (try clear hb); (try clear hb2); (try clear hk); (try clear hi)) | ((with_reducible refine gate_dst (N := 8) rfl ?_); refine Hlp.bx (N := 8) (cs := #[.int .i64 0, .int .i64 0, .string (⟨#[]⟩ : ByteArray), .string (⟨#[]⟩ : ByteArray)]) (t := 23) ?_; intro gb368 hg w16 hbox hb; have BK368 := Aside0.mk (hbox); have GW368 := Aside0.mk ((by rw [hg]; exact (below_size (Hlp.bl HB.out)) : w.heap.size ≤ gb368)); have GE368 := Aside0.mk ((by rw [hg]; exact (below_size (Hlp.bl HB.out)) : w.heap.size ≤ gb368)); replace HB := Aside0.mk (below_step (Hlp.bl HB.out) hb); have NB361_368 := Aside0.mk ((by rw [hg]; exact Nat.ne_of_lt (blk_lt (g := gb361) (o := .cells #[.int .i64 t355, .int .i64 t356, .string t357, .string t358] 23 (0, 0)) (Hlp.bp BK361.out)) : gb361 ≠ gb368)); have NB368_361 := Aside0.mk ((by rw [hg]; exact Nat.ne_of_gt (blk_lt (g := gb361) (o := .cells #[.int .i64 t355, .int .i64 t356, .string t357, .string t358] 23 (0, 0)) (Hlp.bp BK361.out)) : gb368 ≠ gb361)); replace BK361 := Aside0.mk (blk_below (g := gb361) (o := .cells #[.int .i64 t355, .int .i64 t356, .string t357, .string t358] 23 (0, 0)) (Hlp.bp BK361.out) hb); clear hb hbox hg; have hnb17 := NB368_361.out; have hnc17 := NB361_368.out; have hcz18_0 : w16.cell? ⟨gb368, 0, none⟩ = some (.int .i64 0) := (blk_cell BK368.out 0).trans rfl; have hcz18_1 : w16.cell? ⟨gb368, 1, none⟩ = some (.int .i64 0) := (blk_cell BK368.out 1).trans rfl; have hcz18_2 : w16.cell? ⟨gb368, 2, none⟩ = some (.string (⟨#[]⟩ : ByteArray)) := (blk_cell BK368.out 2).trans rfl; have hcz18_3 : w16.cell? ⟨gb368, 3, none⟩ = some (.string (⟨#[]⟩ : ByteArray)) := (blk_cell BK368.out 3).trans rfl; have hfz18_0 := blk_frozen BK368.out 0; have hfz18_1 := blk_frozen BK368.out 1; have hfz18_2 := blk_frozen BK368.out 2; have hfz18_3 := blk_frozen BK368.out 3; have hcz19_0 : w16.cell? ⟨gb361, 0, none⟩ = some (.int .i64 t355) := (blk_cell BK361.out 0).trans rfl; have hcz19_1 : w16.cell? ⟨gb361, 1, none⟩ = some (.int .i64 t356) := (blk_cell BK361.out 1).trans rfl; have hcz19_2 : w16.cell? ⟨gb361, 2, none⟩ = some (.string t357) := (blk_cell BK361.out 2).trans rfl; have hcz19_3 : w16.cell? ⟨gb361, 3, none⟩ = some (.string t358) := (blk_cell BK361.out 3).trans rfl; have hfz19_0 := blk_frozen BK361.out 0; have hfz19_1 := blk_frozen BK361.out 1; have hfz19_2 := blk_frozen BK361.out 2; have hfz19_3 := blk_frozen BK361.out 3) | (go_at_call 24; (with_reducible refine (brokerlaw31_awake.calls k  t369 _ A11.out).mono ?_); rintro e w20 ⟨rfl, hb⟩; replace BK361 := Aside0.mk (blk_below (g := gb361) (o := .cells #[.int .i64 t355, .int .i64 t356, .string t357, .string t358] 23 (0, 0)) (by refine Hlp.bp (blk_far ?_ NB361_368.out _); refine Hlp.bp (blk_far ?_ NB361_368.out _); refine Hlp.bp (blk_far ?_ NB361_368.out _); refine Hlp.bp (blk_far ?_ NB361_368.out _); exact Hlp.bp BK361.out) hb); replace BK368 := Aside0.mk (blk_below (g := gb368) (o := .cells #[.int .i64 t362, .int .i64 t363, .string t364, .string t365] 23 (0, 0)) (by refine Hlp.bp (blk_put (cs := #[.int .i64 t362, .int .i64 t363, .string t364, .string (⟨#[]⟩ : ByteArray)]) ?_ 3 _ rfl); refine Hlp.bp (blk_put (cs := #[.int .i64 t362, .int .i64 t363, .string (⟨#[]⟩ : ByteArray), .string (⟨#[]⟩ : ByteArray)]) ?_ 2 _ rfl); refine Hlp.bp (blk_put (cs := #[.int .i64 t362, .int .i64 0, .string (⟨#[]⟩ : ByteArray), .string (⟨#[]⟩ : ByteArray)]) ?_ 1 _ rfl); refine Hlp.bp (blk_put (cs := #[.int .i64 0, .int .i64 0, .string (⟨#[]⟩ : ByteArray), .string (⟨#[]⟩ : ByteArray)]) ?_ 0 _ rfl); exact Hlp.bp BK368.out) hb); replace HB := Aside0.mk (below_step (Hlp.bl HB.out) hb); (try clear hb); (try clear hb2); (try clear hk); (try clear hi)))
     go_ret
     exact ⟨by first | rfl | (simp [errW_none, errW_some] <;> rfl) | (simp [*, errW_none, errW_some] <;> rfl), Hlp.bl HB.out⟩
    ·
     rw [if_neg c10] at H
     have c10b0 : (t360 == t367) = false := beq_eq_false_iff_ne.mpr c10
     have c10b1 : (t360 != t367) = true := bne_iff_ne.mpr c10
     exact absurd H (by simp)
   ·
    rw [if_neg c9] at H
    have c9b0 : (t359 == t366) = false := beq_eq_false_iff_ne.mpr c9
    have c9b1 : (t359 != t366) = true := bne_iff_ne.mpr c9
    exact absurd H (by simp)
  ·
   rw [if_neg c8] at H
   have c8b0 : (t355 == t362 && (t356 == t363 && (t357.toList == t364.toList && (t358.toList == t365.toList)))) = false := by simpa using c8
   (try (have c8b1 : decide (t355 = t362 && (t356 == t363 && (t357.toList == t364.toList && (t358.toList == t365.toList)))) = false := by simpa using c8))
   (try (have c8b2 : (t355 == t362 && (t356 == t363 && (t357.toList == t364.toList && (t358.toList == t365.toList)))) = false := by simpa using c8))
   (try (have c8b3 : ¬ (t355 = t362 && (t356 == t363 && (t357.toList == t364.toList && (t358.toList == t365.toList)))) := by simpa using c8))
   clear c8
   exact absurd H (by simp)

/-- THE ONE PURE STATEMENT of brokerlaw31_RecordDecodes: yours. -/
def brokerlaw31_RecordDecodes.Pure : Prop := ∀ (l0 : List Int) (a1 : Int), l0.length ≤ maxLen → l0.length * 1 ≤ 140737488351232 → (∀ x ∈ l0, (Lit.int .u8 x).wf = true) → (Lit.int .i64 a1).wf = true → ∃ k, brokerlaw31_RecordDecodes.f k l0 a1 = some true
theorem brokerlaw31_RecordDecodes.walk (P : brokerlaw31_RecordDecodes.Pure) (a0 : Option Addr) (len0 cap0 : Nat) (z0 : List Int) (a1 : Int) (w : World) (w0 : (a0 = none ∧ len0 = 0 ∧ cap0 = 0 ∧ z0 = []) ∨ ∃ x, a0 = some x ∧ len0 ≤ cap0 ∧ cap0 ≤ maxLen ∧ z0.length = cap0 ∧ (∀ i, i < z0.length → w.cell? (x.add i) = some (.int .u8 (z0.getD i 0))) ∧ ∀ n ∈ z0, (Lit.int .u8 n).wf = true) (y0 : len0 * 1 ≤ 140737488351232) (w1 : (Lit.int .i64 a1).wf = true) :
 Calls Try.prog 5 #[.slice a0 len0 cap0, .int .i64 a1] w fun e w' => e = .returned (.bool true) ∧ Below w.heap.size w w' := by
 obtain ⟨l0, rfl, hr0, hm0, hw0, hc0⟩ := ReadsInt.ofRowC w0
 obtain ⟨k, h⟩ := P l0 a1 hm0 y0 hw0 w1
 refine (brokerlaw31_RecordDecodes.calls k _ _ l0 a1 true w (Kd.C_of_reads (d := (0 : Int)) (h1 := fun _ => rfl) hr0) hc0 h).mono ?_
 rintro e w' ⟨rfl, hd⟩
 exact ⟨rfl, hd⟩

end Go.Proofs.Ytkkelbakadbbhaa.J
