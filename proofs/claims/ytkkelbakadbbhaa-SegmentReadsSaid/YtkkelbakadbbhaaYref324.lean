/- Lean functions that compute what the Go functions named below compute; each theorem '.calls': if its Lean function has an answer, the Go function returns it. -/
import Derived.Test.YtkkelbakadbbhaaYx0
import Derived.Test.YtkkelbakadbbhaaH
import Derived.Test.YtkkelbakadbbhaaYref312
namespace Go.Proofs.Ytkkelbakadbbhaa.J
open Go.RowKit Go.Proofs.YtkkelbakadbbhaaW.PrintWords Go.Proofs.YtkkelbakadbbhaaW.PrintLast Go.Proofs.YtkkelbakadbbhaaW.PrintMore
attribute [local go_sem] max2_int min2_int max_two min_two max_three min_three max_four min_four   -- for this text's walks alone
set_option linter.unusedVariables false
set_option linter.unusedSimpArgs false

/-! ### brokerref32_Records: function 56 -/
def brokerref32_Records.l0 : Nat → List (S23) → Int → Int → Int → List Int → Option ((List (S23)))
 | 0, _, _, _, _, _ => none
 | k + 1, x3, x4, x587000, x587001, x587002 => if x4 < (x587002.length : Int) then ((brokerref31_Decode.f k x587002 x4).bind fun bt587 => (if bt587.2.2.2.2.2 = 0 then (if x3.length < 2932031007402 then (brokerref32_Records.l0 k (x3 ++ [(⟨bt587.1, bt587.2.1, bt587.2.2.1, bt587.2.2.2.1⟩ : S23)]) bt587.2.2.2.2.1 x587000 x587001 x587002) else (none)) else (some x3))) else (some x3)
def brokerref32_Records.f (k : Nat) (a0_0 : Int) (a0_1 : Int) (l0_2 : List Int) : Option ((List (S23))) := brokerref32_Records.l0 k ([] : List (S23)) 0 a0_0 a0_1 l0_2
theorem brokerref32_Records.mono_l : ∀ k, (∀ y0 y1 y2 y3 y4, LeO (brokerref32_Records.l0 k y0 y1 y2 y3 y4) (brokerref32_Records.l0 (k + 1) y0 y1 y2 y3 y4))
 | 0 => fun _ _ _ _ _ r h => by simp [brokerref32_Records.l0] at h
 | k + 1 => by
  have ih0 := brokerref32_Records.mono_l k
  ·
   intro y0 y1 y2 y3 y4
   unfold brokerref32_Records.l0
   repeat' first
   | (with_reducible exact ih0 _ _ _ _ _)
   | (with_reducible exact brokerref31_Decode.mono _ _ _)
   | (with_reducible exact LeO.refl _)
   | (with_reducible exact LeO.none _)
   | (with_reducible refine LeO.ite ?_ ?_)
   | (with_reducible refine LeO.bind ?_ (fun _ => ?_))
   | exact ih0 _ _ _ _ _
   | exact brokerref31_Decode.mono _ _ _
   | exact LeO.none _
   | refine LeO.ite ?_ ?_
   | refine LeO.bind ?_ (fun _ => ?_)
theorem brokerref32_Records.mono : ∀ a0 a1 a2 k, LeO (brokerref32_Records.f k a0 a1 a2) (brokerref32_Records.f (k + 1) a0 a1 a2) := by
 intro a0 a1 a2 k
 have ih0 := brokerref32_Records.mono_l k
 unfold brokerref32_Records.f
 repeat' first
  | (with_reducible exact ih0 _ _ _ _ _)
  | (with_reducible exact brokerref31_Decode.mono _ _ _)
  | (with_reducible exact LeO.refl _)
  | (with_reducible exact LeO.none _)
  | (with_reducible refine LeO.ite ?_ ?_)
  | (with_reducible refine LeO.bind ?_ (fun _ => ?_))
  | exact ih0 _ _ _ _ _
  | exact brokerref31_Decode.mono _ _ _
  | exact LeO.none _
  | refine LeO.ite ?_ ?_
  | refine LeO.bind ?_ (fun _ => ?_)
set_option maxHeartbeats 8000000 in
set_option maxRecDepth 100000 in
theorem brokerref32_Records.calls (k : Nat) (a0_0 : Int) (a0_1 : Int) (A0_2 : Option Addr) (c0_2 : Nat) (l0_2 : List Int) (r : List (S23)) (w : World) (hr0_2 : Kd.C (Kd.int .u8) w A0_2 l0_2.length l0_2) (hc0_2 : l0_2.length ≤ c0_2) (h : brokerref32_Records.f k a0_0 a0_1 l0_2 = some r) :
 Calls Try.prog 56 #[.agg #[.int .i64 a0_0, .int .i64 a0_1, .slice A0_2 l0_2.length c0_2]] w fun e w' => ∃ v0_ : Value, e = .returned (v0_) ∧ Kd.R k23 23 w' w.heap.size (fun _ => True) v0_ r ∧ Below w.heap.size w w' := by
 have hu43 := Try.underlying43
 have hu23 := Try.underlying23
 have HR0_2 := Aside0.mk hr0_2
 have HC0_2 := Aside0.mk hc0_2
 clear hr0_2 hc0_2
 have HB := Aside0.mk (Below.refl w.heap.size w)
 have H : (brokerref32_Records.l0 k ([] : List (S23)) 0 a0_0 a0_1 l0_2) = some r := h
 clear h
 have H' := Aside0.mk H
 clear H
 go_enter Try.func56, Try.ntmps56
 go_wp2_with (first | ((with_reducible refine gate_dst (N := 1) rfl ?_); refine Hlp.bx (N := 1) (cs := #[.int .i64 a0_0, .int .i64 a0_1, .slice A0_2 l0_2.length c0_2]) (t := 43) ?_; intro gb586 hg w2 hbox hb; have BK586 := Aside0.mk (hbox); have GW586 := Aside0.mk ((by rw [hg]; exact (below_size (Hlp.bl HB.out)) : w.heap.size ≤ gb586)); have GE586 := Aside0.mk ((by rw [hg]; exact (below_size (Hlp.bl HB.out)) : w.heap.size ≤ gb586)); replace HB := Aside0.mk (below_step (Hlp.bl HB.out) hb); clear hb hbox hg))
 go_loopg [3, 4] k (fun kq v3 v4 w' => ∃ (x3_1 : List (S23)) (x4_1 : Int), v4 = .int .i64 x4_1 ∧ Aside0 (brokerref32_Records.l0 kq x3_1 x4_1 a0_0 a0_1 l0_2 = some r) ∧ Aside0 (kq ≤ k) ∧ Aside0 (Kd.R k23 23 w' w.heap.size (fun _ => True) v3 x3_1) ∧ Aside0 (w'.heap[gb586]? = some (.cells #[.int .i64 a0_0, .int .i64 a0_1, (.slice A0_2 l0_2.length c0_2)] 43 (0, 0))) ∧ Aside0 (Below w.heap.size w w'))
 case atStart => exact ⟨(([] : List (S23))), (0), (by first | rfl | (simp; done) | (simp [*]; done)), H', ⟨Nat.le_refl _⟩, ⟨by first | exact Kd.R_nil _ _ _ _ _ | exact Kd.N_nil _ _ _ _ _ | exact Kd.V_nil _ _ _ _ _ | exact Kd.Q_nil _ _ _ _ _ | exact Kd.S_nil _ _ _ _ _⟩, ⟨by exact Hlp.bp BK586.out⟩, ⟨Hlp.bl HB.out⟩⟩
 case round =>
  clear H'
  try clear p2
  obtain ⟨x3_1, x4_1, rfl, HA, HK1, HO_3, BK586, HB⟩ := hrel
  cases gk with
  | zero => exact absurd HA.out (by simp [brokerref32_Records.l0])
  | succ k1 =>
   have H := HA.out
   clear HA
   simp only [brokerref32_Records.l0] at H
   by_cases c3 : x4_1 < (l0_2.length : Int)
   ·
    rw [if_pos c3] at H
    have c3b0 : decide (x4_1 < (l0_2.length : Int)) = true := decide_eq_true c3
    clear c3
    replace H := Option.bind_eq_some_iff.mp H
    obtain ⟨⟨t587, t588, t589, t590, t591, t592⟩, A40, H⟩ := H
    replace H : (if t592 = 0 then (if x3_1.length < 2932031007402 then (brokerref32_Records.l0 k1 (x3_1 ++ [(⟨t587, t588, t589, t590⟩ : S23)]) t591 a0_0 a0_1 l0_2) else (none)) else (some x3_1)) = some r := H
    have A4 := Aside0.mk A40
    clear A40
    by_cases c5 : t592 = 0
    ·
     rw [if_pos c5] at H
     have c5b0 : (t592 == 0) = true := beq_iff_eq.mpr c5
     have c5b1 : (t592 != 0) = false := bne_eq_false_iff_eq.mpr c5
     clear c5
     by_cases c6 : x3_1.length < 2932031007402
     ·
      rw [if_pos c6] at H
      have LMc6 := Aside0.mk c6
      clear c6
      obtain ⟨y594, hy594⟩ : ∃ y_ : List (S23), y_ = (x3_1 ++ [(⟨t587, t588, t589, t590⟩ : S23)]) := ⟨_, rfl⟩
      replace H : (brokerref32_Records.l0 k1 y594 t591 a0_0 a0_1 l0_2) = some r := by first | (rw [hy594]; with_reducible exact H) | (have H2_ := (Option.bind_some _ _).symm.trans H; rw [hy594]; with_reducible exact H2_) | (have H2_ := (Option.bind_some _ _).symm.trans H; with_reducible exact H2_) | with_reducible exact H | (rw [hy594]; exact H) | exact H
      have Ny594 := Aside0.mk hy594
      clear hy594
      have H' := Aside0.mk H
      clear H
      have hcz7_0 : wr.cell? ⟨gb586, 0, none⟩ = some (.int .i64 a0_0) := (blk_cell BK586.out 0).trans rfl
      have hcz7_1 : wr.cell? ⟨gb586, 1, none⟩ = some (.int .i64 a0_1) := (blk_cell BK586.out 1).trans rfl
      have hcz7_2 : wr.cell? ⟨gb586, 2, none⟩ = some (.slice A0_2 l0_2.length c0_2) := (blk_cell BK586.out 2).trans rfl
      have hfz7_0 := blk_frozen BK586.out 0
      have hfz7_1 := blk_frozen BK586.out 1
      have hfz7_2 := blk_frozen BK586.out 2
      go_wp2_with (first | ((with_reducible refine gate_callee (f := 30) rfl ?_); refine Hlp.gl (some 17) Try.func30 #[.slice A0_2 l0_2.length c0_2, .int .i64 x4_1] ?_; (with_reducible refine (brokerref31_Decode.calls k1 _ _ l0_2 x4_1 t587 t588 t589 t590 t591 t592 _ ?side1 ?side2 A4.out).mono ?_); (case side1 => exact Hlp.cp (Kd.C_below HR0_2.out HB.out)); (case side2 => exact HC0_2.out); rintro e w8 ⟨rfl, hb⟩; refine ⟨_, rfl, ?_⟩; replace HO_3 := Aside0.mk (Kd.R_below (Hlp.rp HO_3.out) hb); replace BK586 := Aside0.mk (blk_below (g := gb586) (o := .cells #[.int .i64 a0_0, .int .i64 a0_1, .slice A0_2 l0_2.length c0_2] 43 (0, 0)) (Hlp.bp BK586.out) hb); replace HB := Aside0.mk (below_step (Hlp.bl HB.out) hb); (try clear hb); (try clear hb2); (try clear hk); (try clear hi)) | ((with_reducible refine gate_dst (N := 5) rfl ?_); refine Hlp.bx (N := 5) (cs := #[.int .i64 0, .int .i64 0, .string (⟨#[]⟩ : ByteArray), .string (⟨#[]⟩ : ByteArray)]) (t := 23) ?_; intro gb593 hg w9 hbox hb; replace HO_3 := Aside0.mk (Kd.R_below (Kd.R_elderB (Hlp.rp HO_3.out) gb593 (Nat.le_of_eq hg.symm)) hb); have BK593 := Aside0.mk (hbox); have GW593 := Aside0.mk ((by rw [hg]; exact (below_size (Hlp.bl HB.out)) : w.heap.size ≤ gb593)); have GE593 := Aside0.mk ((by rw [hg]; exact (below_size (Hlp.bl HB.out)) : w.heap.size ≤ gb593)); replace HB := Aside0.mk (below_step (Hlp.bl HB.out) hb); have NB586_593 := Aside0.mk ((by rw [hg]; exact Nat.ne_of_lt (blk_lt (g := gb586) (o := .cells #[.int .i64 a0_0, .int .i64 a0_1, .slice A0_2 l0_2.length c0_2] 43 (0, 0)) (Hlp.bp BK586.out)) : gb586 ≠ gb593)); have NB593_586 := Aside0.mk ((by rw [hg]; exact Nat.ne_of_gt (blk_lt (g := gb586) (o := .cells #[.int .i64 a0_0, .int .i64 a0_1, .slice A0_2 l0_2.length c0_2] 43 (0, 0)) (Hlp.bp BK586.out)) : gb593 ≠ gb586)); replace BK586 := Aside0.mk (blk_below (g := gb586) (o := .cells #[.int .i64 a0_0, .int .i64 a0_1, .slice A0_2 l0_2.length c0_2] 43 (0, 0)) (Hlp.bp BK586.out) hb); clear hb hbox hg; have hnb10 := NB593_586.out; have hnc10 := NB586_593.out; have hcz11_0 : w9.cell? ⟨gb593, 0, none⟩ = some (.int .i64 0) := (blk_cell BK593.out 0).trans rfl; have hcz11_1 : w9.cell? ⟨gb593, 1, none⟩ = some (.int .i64 0) := (blk_cell BK593.out 1).trans rfl; have hcz11_2 : w9.cell? ⟨gb593, 2, none⟩ = some (.string (⟨#[]⟩ : ByteArray)) := (blk_cell BK593.out 2).trans rfl; have hcz11_3 : w9.cell? ⟨gb593, 3, none⟩ = some (.string (⟨#[]⟩ : ByteArray)) := (blk_cell BK593.out 3).trans rfl; have hfz11_0 := blk_frozen BK593.out 0; have hfz11_1 := blk_frozen BK593.out 1; have hfz11_2 := blk_frozen BK593.out 2; have hfz11_3 := blk_frozen BK593.out 3) | ((with_reducible refine gate_builtin (b := .append) (xs := #[.tmp 24, .tmp 26]) rfl ?_); at_builtin; refine Kd.R_append k23 (w0 := w) w.heap.size rfl (.tmp 24) (.tmp 26) 58 23 (.agg #[(.int .i64 0), (.int .i64 0), (.string ⟨#[]⟩), (.string ⟨#[]⟩)]) 48 rfl Try.underlying58 info23 rfl (by decide) (by omega) u3 x3_1 (⟨t587, t588, t589, t590⟩ : S23) [.int .i64 t587, .int .i64 t588, .string t589, .string t590] (fun k_ => k_ ≠ gb593) (fun _ => False) rfl (by first | (go_simp; done) | (go_simp; rfl)) ?aP (fun _ hk => hk.elim) ?aF ?aO ?aB ?aS ?aL ?_; (case aP => exact k23_mkM _ _ _ (⟨t587, t588, t589, t590⟩ : S23)); (case aB => exact (Hlp.bl HB.out)); (case aF => exact (fun k_ hk => Kd.freshB (g := gb593) (o := .cells #[.int .i64 t587, .int .i64 t588, .string t589, .string t590] 23 (0, 0)) (by refine Hlp.bp (blk_put (cs := #[.int .i64 t587, .int .i64 t588, .string t589, .string (⟨#[]⟩ : ByteArray)]) ?_ 3 _ rfl); refine Hlp.bp (blk_put (cs := #[.int .i64 t587, .int .i64 t588, .string (⟨#[]⟩ : ByteArray), .string (⟨#[]⟩ : ByteArray)]) ?_ 2 _ rfl); refine Hlp.bp (blk_put (cs := #[.int .i64 t587, .int .i64 0, .string (⟨#[]⟩ : ByteArray), .string (⟨#[]⟩ : ByteArray)]) ?_ 1 _ rfl); refine Hlp.bp (blk_put (cs := #[.int .i64 0, .int .i64 0, .string (⟨#[]⟩ : ByteArray), .string (⟨#[]⟩ : ByteArray)]) ?_ 0 _ rfl); exact Hlp.bp BK593.out) k_ hk)); (case aO => exact (by (with_reducible repeat (first | apply Kd.R_alloc | apply Kd.R_drewN | apply Kd.R_drew)); exact Kd.R_mono (Kd.R_far (p := ⟨gb593, 3, none⟩) (Kd.R_far (p := ⟨gb593, 2, none⟩) (Kd.R_far (p := ⟨gb593, 1, none⟩) (Kd.R_far (p := ⟨gb593, 0, none⟩) (Kd.R_mono HO_3.out (fun k_ hk => (⟨hk, hk.2⟩ : _ ∧ k_ ≠ gb593))) (fun _ hk => hk.2) (.int .i64 t587)) (fun _ hk => hk.2) (.int .i64 t588)) (fun _ hk => hk.2) (.string t589)) (fun _ hk => hk.2) (.string t590)) (fun _ hk => hk.1.2))); (case aS => exact (below_size (Hlp.bl HB.out))); (case aL => have := LMc6.out; omega); intro v595 w12 ho hb hg hat; rw [← Ny594.out] at ho; have n0_ := Aside0.mk (blk_grown (g := gb586) (o := .cells #[.int .i64 a0_0, .int .i64 a0_1, .slice A0_2 l0_2.length c0_2] 43 (0, 0)) (by refine Hlp.bp (blk_far ?_ NB586_593.out _); refine Hlp.bp (blk_far ?_ NB586_593.out _); refine Hlp.bp (blk_far ?_ NB586_593.out _); refine Hlp.bp (blk_far ?_ NB586_593.out _); exact Hlp.bp BK586.out) hg (Kd.R_ne HO_3.out BK586.out (by decide))); have n1_ := Aside0.mk (blk_grown (g := gb593) (o := .cells #[.int .i64 t587, .int .i64 t588, .string t589, .string t590] 23 (0, 0)) (by refine Hlp.bp (blk_put (cs := #[.int .i64 t587, .int .i64 t588, .string t589, .string (⟨#[]⟩ : ByteArray)]) ?_ 3 _ rfl); refine Hlp.bp (blk_put (cs := #[.int .i64 t587, .int .i64 t588, .string (⟨#[]⟩ : ByteArray), .string (⟨#[]⟩ : ByteArray)]) ?_ 2 _ rfl); refine Hlp.bp (blk_put (cs := #[.int .i64 t587, .int .i64 0, .string (⟨#[]⟩ : ByteArray), .string (⟨#[]⟩ : ByteArray)]) ?_ 1 _ rfl); refine Hlp.bp (blk_put (cs := #[.int .i64 0, .int .i64 0, .string (⟨#[]⟩ : ByteArray), .string (⟨#[]⟩ : ByteArray)]) ?_ 0 _ rfl); exact Hlp.bp BK593.out) hg (Kd.R_away HO_3.out (fun _ hk => hk.2))); have n2_ := Aside0.mk (hb); have n3_ := Aside0.mk (ho); clear BK586; clear BK593; clear HB; clear HO_3; have BK586 := n0_; have BK593 := n1_; have HB := n2_; have HO596 := n3_; clear n0_ n1_ n2_ n3_; clear ho hb hg hat))
      go_roundg k1
      case measure => have := HK1.out; omega
      case rel => exact ⟨(y594), (t591), (by first | rfl | (simp; done) | (simp [*]; done)), H', ⟨by have := HK1.out; omega⟩, ⟨by (with_reducible repeat (first | apply Kd.R_alloc | apply Kd.R_drewN | apply Kd.R_drew)); exact Kd.R_mono HO596.out (fun _ hk => trivial)⟩, ⟨by exact Hlp.bp BK586.out⟩, ⟨Hlp.bl HB.out⟩⟩
     ·
      rw [if_neg c6] at H
      exact absurd H (by simp)
    ·
     rw [if_neg c5] at H
     have c5b0 : (t592 == 0) = false := beq_eq_false_iff_ne.mpr c5
     have c5b1 : (t592 != 0) = true := bne_iff_ne.mpr c5
     obtain rfl := Option.some.inj H
     have hcz13_0 : wr.cell? ⟨gb586, 0, none⟩ = some (.int .i64 a0_0) := (blk_cell BK586.out 0).trans rfl
     have hcz13_1 : wr.cell? ⟨gb586, 1, none⟩ = some (.int .i64 a0_1) := (blk_cell BK586.out 1).trans rfl
     have hcz13_2 : wr.cell? ⟨gb586, 2, none⟩ = some (.slice A0_2 l0_2.length c0_2) := (blk_cell BK586.out 2).trans rfl
     have hfz13_0 := blk_frozen BK586.out 0
     have hfz13_1 := blk_frozen BK586.out 1
     have hfz13_2 := blk_frozen BK586.out 2
     go_wp2_with (first | ((with_reducible refine gate_callee (f := 30) rfl ?_); refine Hlp.gl (some 17) Try.func30 #[.slice A0_2 l0_2.length c0_2, .int .i64 x4_1] ?_; (with_reducible refine (brokerref31_Decode.calls k1 _ _ l0_2 x4_1 t587 t588 t589 t590 t591 t592 _ ?side1 ?side2 A4.out).mono ?_); (case side1 => exact Hlp.cp (Kd.C_below HR0_2.out HB.out)); (case side2 => exact HC0_2.out); rintro e w14 ⟨rfl, hb⟩; refine ⟨_, rfl, ?_⟩; replace HO_3 := Aside0.mk (Kd.R_below (Hlp.rp HO_3.out) hb); replace BK586 := Aside0.mk (blk_below (g := gb586) (o := .cells #[.int .i64 a0_0, .int .i64 a0_1, .slice A0_2 l0_2.length c0_2] 43 (0, 0)) (Hlp.bp BK586.out) hb); replace HB := Aside0.mk (below_step (Hlp.bl HB.out) hb); (try clear hb); (try clear hb2); (try clear hk); (try clear hi)) | ((with_reducible refine gate_dst (N := 5) rfl ?_); refine Hlp.bx (N := 5) (cs := #[.int .i64 0, .int .i64 0, .string (⟨#[]⟩ : ByteArray), .string (⟨#[]⟩ : ByteArray)]) (t := 23) ?_; intro gb593 hg w15 hbox hb; replace HO_3 := Aside0.mk (Kd.R_below (Kd.R_elderB (Hlp.rp HO_3.out) gb593 (Nat.le_of_eq hg.symm)) hb); have BK593 := Aside0.mk (hbox); have GW593 := Aside0.mk ((by rw [hg]; exact (below_size (Hlp.bl HB.out)) : w.heap.size ≤ gb593)); have GE593 := Aside0.mk ((by rw [hg]; exact (below_size (Hlp.bl HB.out)) : w.heap.size ≤ gb593)); replace HB := Aside0.mk (below_step (Hlp.bl HB.out) hb); have NB586_593 := Aside0.mk ((by rw [hg]; exact Nat.ne_of_lt (blk_lt (g := gb586) (o := .cells #[.int .i64 a0_0, .int .i64 a0_1, .slice A0_2 l0_2.length c0_2] 43 (0, 0)) (Hlp.bp BK586.out)) : gb586 ≠ gb593)); have NB593_586 := Aside0.mk ((by rw [hg]; exact Nat.ne_of_gt (blk_lt (g := gb586) (o := .cells #[.int .i64 a0_0, .int .i64 a0_1, .slice A0_2 l0_2.length c0_2] 43 (0, 0)) (Hlp.bp BK586.out)) : gb593 ≠ gb586)); replace BK586 := Aside0.mk (blk_below (g := gb586) (o := .cells #[.int .i64 a0_0, .int .i64 a0_1, .slice A0_2 l0_2.length c0_2] 43 (0, 0)) (Hlp.bp BK586.out) hb); clear hb hbox hg; have hnb16 := NB593_586.out; have hnc16 := NB586_593.out; have hcz17_0 : w15.cell? ⟨gb593, 0, none⟩ = some (.int .i64 0) := (blk_cell BK593.out 0).trans rfl; have hcz17_1 : w15.cell? ⟨gb593, 1, none⟩ = some (.int .i64 0) := (blk_cell BK593.out 1).trans rfl; have hcz17_2 : w15.cell? ⟨gb593, 2, none⟩ = some (.string (⟨#[]⟩ : ByteArray)) := (blk_cell BK593.out 2).trans rfl; have hcz17_3 : w15.cell? ⟨gb593, 3, none⟩ = some (.string (⟨#[]⟩ : ByteArray)) := (blk_cell BK593.out 3).trans rfl; have hfz17_0 := blk_frozen BK593.out 0; have hfz17_1 := blk_frozen BK593.out 1; have hfz17_2 := blk_frozen BK593.out 2; have hfz17_3 := blk_frozen BK593.out 3))
     go_ret
     exact ⟨_, by first | rfl | (simp [errW_none, errW_some] <;> rfl) | (simp [*, errW_none, errW_some] <;> rfl), by (with_reducible repeat (first | apply Kd.R_alloc | apply Kd.R_drewN | apply Kd.R_drew)); exact Kd.R_mono (Kd.R_far (p := ⟨gb593, 3, none⟩) (Kd.R_far (p := ⟨gb593, 2, none⟩) (Kd.R_far (p := ⟨gb593, 1, none⟩) (Kd.R_far (p := ⟨gb593, 0, none⟩) (Kd.R_mono HO_3.out (fun k_ hk => (⟨hk, hk.2⟩ : _ ∧ k_ ≠ gb593))) (fun _ hk => hk.2) (.int .i64 t587)) (fun _ hk => hk.2) (.int .i64 t588)) (fun _ hk => hk.2) (.string t589)) (fun _ hk => hk.2) (.string t590)) (fun _ hk => trivial), Hlp.bl HB.out⟩
   ·
    rw [if_neg c3] at H
    have c3b0 : decide (x4_1 < (l0_2.length : Int)) = false := decide_eq_false c3
    clear c3
    obtain rfl := Option.some.inj H
    have hcz18_0 : wr.cell? ⟨gb586, 0, none⟩ = some (.int .i64 a0_0) := (blk_cell BK586.out 0).trans rfl
    have hcz18_1 : wr.cell? ⟨gb586, 1, none⟩ = some (.int .i64 a0_1) := (blk_cell BK586.out 1).trans rfl
    have hcz18_2 : wr.cell? ⟨gb586, 2, none⟩ = some (.slice A0_2 l0_2.length c0_2) := (blk_cell BK586.out 2).trans rfl
    have hfz18_0 := blk_frozen BK586.out 0
    have hfz18_1 := blk_frozen BK586.out 1
    have hfz18_2 := blk_frozen BK586.out 2
    go_wp2
    go_ret
    exact ⟨_, by first | rfl | (simp [errW_none, errW_some] <;> rfl) | (simp [*, errW_none, errW_some] <;> rfl), by (with_reducible repeat (first | apply Kd.R_alloc | apply Kd.R_drewN | apply Kd.R_drew)); exact HO_3.out, Hlp.bl HB.out⟩

end Go.Proofs.Ytkkelbakadbbhaa.J
