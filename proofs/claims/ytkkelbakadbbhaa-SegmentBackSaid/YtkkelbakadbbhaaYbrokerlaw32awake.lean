/- Lean functions that compute what the Go functions named below compute; each theorem '.calls': if its Lean function has an answer, the Go function returns it. -/
import Derived.Test.YtkkelbakadbbhaaYx0
import Derived.Test.YtkkelbakadbbhaaH
import Derived.Test.YtkkelbakadbbhaaYeq0
import Derived.Test.YtkkelbakadbbhaaYpack0
import Derived.Test.YtkkelbakadbbhaaYrecord0
import Derived.Test.YtkkelbakadbbhaaYsegment0
import Derived.Test.YtkkelbakadbbhaaYsegment1
namespace Go.Proofs.Ytkkelbakadbbhaa.J
open Go.RowKit Go.Proofs.YtkkelbakadbbhaaW.PrintWords Go.Proofs.YtkkelbakadbbhaaW.PrintLast Go.Proofs.YtkkelbakadbbhaaW.PrintMore
attribute [local go_sem] max2_int min2_int max_two min_two max_three min_three max_four min_four   -- for this text's walks alone
set_option linter.unusedVariables false
set_option linter.unusedSimpArgs false

attribute [local go_sem high] eqA23
/-! ### brokerlaw32_awake: function 47 -/
theorem fld43_47 (x y : Int) (v : Value) (W : World) : (Instr.field 43 (.agg #[.int .i64 x, .int .i64 y, v]) 1).run Try.prog W = .ok (.int .i64 y) W := by
 have h : (Try.prog.info? 3).map (·.size) = some 1 := by kernel_rfl
 obtain ⟨i, hi, hs⟩ := Option.map_eq_some_iff.1 h
 simp [Instr.field, run_underlying Try.underlying43, part, sizeOf, typeInfo, asAgg, hi, hs]
def brokerlaw32_awake.f (k : Nat)  : Option (Bool) := (segment_New.f 5).bind fun bt292 => ((segment_Append.f k bt292.1 bt292.2.1 bt292.2.2 1 (⟨#[97]⟩ : ByteArray) (⟨#[118]⟩ : ByteArray)).bind fun bt297 => ((segment_Recover.f k bt297.2.2.1 5).bind fun bt305 => ((segment_Records.f k bt297.1 bt297.2.1 bt297.2.2.1).bind fun t312 => (if bt297.2.2.2.1 = 5 then (if bt297.2.2.2.2 = 0 then (if bt297.1 = 5 then (if bt297.2.1 = 6 then (if (bt297.2.2.1.length : Int) = 11 then ((segment_Check.f k bt297.1 bt297.2.1 bt297.2.2.1).bind fun t315 => (if t315 = 0 then ((brokerref32_Same.f bt305.1 bt305.2.1 bt305.2.2.1 bt297.1 bt297.2.1 bt297.2.2.1).bind fun t316 => (if t316 = true then (if bt305.2.2.2 = 11 then (if (t312.length : Int) = 1 then (if 0 < (t312.length : Int) then (if (((rd_T23 t312 0).f0) == 5 && (((rd_T23 t312 0).f1) == 1 && ((((rd_T23 t312 0).f2).toList) == ([97] : List UInt8) && ((((rd_T23 t312 0).f3).toList) == ([118] : List UInt8))))) = true then ((segment_Truncate.f k bt297.1 bt297.2.1 bt297.2.2.1 5).bind fun bt318 => (some (bt318.2.1 == 5))) else (none)) else (none)) else (none)) else (none)) else (none))) else (none))) else (none)) else (none)) else (none)) else (none)) else (none)))))
theorem brokerlaw32_awake.mono : ∀ k, LeO (brokerlaw32_awake.f k ) (brokerlaw32_awake.f (k + 1) ) := by
 intro  k
 unfold brokerlaw32_awake.f
 repeat' first
  | (with_reducible exact segment_Append.mono _ _ _ _ _ _ _)
  | (with_reducible exact segment_Check.mono _ _ _ _)
  | (with_reducible exact segment_Records.mono _ _ _ _)
  | (with_reducible exact segment_Recover.mono _ _ _)
  | (with_reducible exact segment_Truncate.mono _ _ _ _ _)
  | (with_reducible exact LeO.refl _)
  | (with_reducible exact LeO.none _)
  | (with_reducible refine LeO.ite ?_ ?_)
  | (with_reducible refine LeO.bind ?_ (fun _ => ?_))
  | exact segment_Append.mono _ _ _ _ _ _ _
  | exact segment_Check.mono _ _ _ _
  | exact segment_Records.mono _ _ _ _
  | exact segment_Recover.mono _ _ _
  | exact segment_Truncate.mono _ _ _ _ _
  | exact LeO.none _
  | refine LeO.ite ?_ ?_
  | refine LeO.bind ?_ (fun _ => ?_)
set_option maxHeartbeats 8000000 in
set_option maxRecDepth 100000 in
theorem brokerlaw32_awake.calls (k : Nat)  (r : Bool) (w : World) (h : brokerlaw32_awake.f k  = some r) :
 Calls Try.prog 47 #[] w fun e w' => e = .returned (.bool r) ∧ Below w.heap.size w w' := by
 have hu43 := Try.underlying43
 have hu23 := Try.underlying23
 have HB := Aside0.mk (Below.refl w.heap.size w)
 have H : ((segment_New.f 5).bind fun bt292 => ((segment_Append.f k bt292.1 bt292.2.1 bt292.2.2 1 (⟨#[97]⟩ : ByteArray) (⟨#[118]⟩ : ByteArray)).bind fun bt297 => ((segment_Recover.f k bt297.2.2.1 5).bind fun bt305 => ((segment_Records.f k bt297.1 bt297.2.1 bt297.2.2.1).bind fun t312 => (if bt297.2.2.2.1 = 5 then (if bt297.2.2.2.2 = 0 then (if bt297.1 = 5 then (if bt297.2.1 = 6 then (if (bt297.2.2.1.length : Int) = 11 then ((segment_Check.f k bt297.1 bt297.2.1 bt297.2.2.1).bind fun t315 => (if t315 = 0 then ((brokerref32_Same.f bt305.1 bt305.2.1 bt305.2.2.1 bt297.1 bt297.2.1 bt297.2.2.1).bind fun t316 => (if t316 = true then (if bt305.2.2.2 = 11 then (if (t312.length : Int) = 1 then (if 0 < (t312.length : Int) then (if (((rd_T23 t312 0).f0) == 5 && (((rd_T23 t312 0).f1) == 1 && ((((rd_T23 t312 0).f2).toList) == ([97] : List UInt8) && ((((rd_T23 t312 0).f3).toList) == ([118] : List UInt8))))) = true then ((segment_Truncate.f k bt297.1 bt297.2.1 bt297.2.2.1 5).bind fun bt318 => (some (bt318.2.1 == 5))) else (none)) else (none)) else (none)) else (none)) else (none))) else (none))) else (none)) else (none)) else (none)) else (none)) else (none)))))) = some r := h
 clear h
 replace H := Option.bind_eq_some_iff.mp H
 obtain ⟨⟨t292, t293, t294⟩, A10, H⟩ := H
 replace H : ((segment_Append.f k t292 t293 t294 1 (⟨#[97]⟩ : ByteArray) (⟨#[118]⟩ : ByteArray)).bind fun bt297 => ((segment_Recover.f k bt297.2.2.1 5).bind fun bt305 => ((segment_Records.f k bt297.1 bt297.2.1 bt297.2.2.1).bind fun t312 => (if bt297.2.2.2.1 = 5 then (if bt297.2.2.2.2 = 0 then (if bt297.1 = 5 then (if bt297.2.1 = 6 then (if (bt297.2.2.1.length : Int) = 11 then ((segment_Check.f k bt297.1 bt297.2.1 bt297.2.2.1).bind fun t315 => (if t315 = 0 then ((brokerref32_Same.f bt305.1 bt305.2.1 bt305.2.2.1 bt297.1 bt297.2.1 bt297.2.2.1).bind fun t316 => (if t316 = true then (if bt305.2.2.2 = 11 then (if (t312.length : Int) = 1 then (if 0 < (t312.length : Int) then (if (((rd_T23 t312 0).f0) == 5 && (((rd_T23 t312 0).f1) == 1 && ((((rd_T23 t312 0).f2).toList) == ([97] : List UInt8) && ((((rd_T23 t312 0).f3).toList) == ([118] : List UInt8))))) = true then ((segment_Truncate.f k bt297.1 bt297.2.1 bt297.2.2.1 5).bind fun bt318 => (some (bt318.2.1 == 5))) else (none)) else (none)) else (none)) else (none)) else (none))) else (none))) else (none)) else (none)) else (none)) else (none)) else (none))))) = some r := H
 have A1 := Aside0.mk A10
 clear A10
 replace H := Option.bind_eq_some_iff.mp H
 obtain ⟨⟨t297, t298, t299, t302, t303⟩, A20, H⟩ := H
 replace H : ((segment_Recover.f k t299 5).bind fun bt305 => ((segment_Records.f k t297 t298 t299).bind fun t312 => (if t302 = 5 then (if t303 = 0 then (if t297 = 5 then (if t298 = 6 then (if (t299.length : Int) = 11 then ((segment_Check.f k t297 t298 t299).bind fun t315 => (if t315 = 0 then ((brokerref32_Same.f bt305.1 bt305.2.1 bt305.2.2.1 t297 t298 t299).bind fun t316 => (if t316 = true then (if bt305.2.2.2 = 11 then (if (t312.length : Int) = 1 then (if 0 < (t312.length : Int) then (if (((rd_T23 t312 0).f0) == 5 && (((rd_T23 t312 0).f1) == 1 && ((((rd_T23 t312 0).f2).toList) == ([97] : List UInt8) && ((((rd_T23 t312 0).f3).toList) == ([118] : List UInt8))))) = true then ((segment_Truncate.f k t297 t298 t299 5).bind fun bt318 => (some (bt318.2.1 == 5))) else (none)) else (none)) else (none)) else (none)) else (none))) else (none))) else (none)) else (none)) else (none)) else (none)) else (none)))) = some r := H
 have A2 := Aside0.mk A20
 clear A20
 replace H := Option.bind_eq_some_iff.mp H
 obtain ⟨⟨t305, t306, t307, t310⟩, A30, H⟩ := H
 replace H : ((segment_Records.f k t297 t298 t299).bind fun t312 => (if t302 = 5 then (if t303 = 0 then (if t297 = 5 then (if t298 = 6 then (if (t299.length : Int) = 11 then ((segment_Check.f k t297 t298 t299).bind fun t315 => (if t315 = 0 then ((brokerref32_Same.f t305 t306 t307 t297 t298 t299).bind fun t316 => (if t316 = true then (if t310 = 11 then (if (t312.length : Int) = 1 then (if 0 < (t312.length : Int) then (if (((rd_T23 t312 0).f0) == 5 && (((rd_T23 t312 0).f1) == 1 && ((((rd_T23 t312 0).f2).toList) == ([97] : List UInt8) && ((((rd_T23 t312 0).f3).toList) == ([118] : List UInt8))))) = true then ((segment_Truncate.f k t297 t298 t299 5).bind fun bt318 => (some (bt318.2.1 == 5))) else (none)) else (none)) else (none)) else (none)) else (none))) else (none))) else (none)) else (none)) else (none)) else (none)) else (none))) = some r := H
 have A3 := Aside0.mk A30
 clear A30
 replace H := Option.bind_eq_some_iff.mp H
 obtain ⟨t312, A40, H⟩ := H
 replace H : (if t302 = 5 then (if t303 = 0 then (if t297 = 5 then (if t298 = 6 then (if (t299.length : Int) = 11 then ((segment_Check.f k t297 t298 t299).bind fun t315 => (if t315 = 0 then ((brokerref32_Same.f t305 t306 t307 t297 t298 t299).bind fun t316 => (if t316 = true then (if t310 = 11 then (if (t312.length : Int) = 1 then (if 0 < (t312.length : Int) then (if (((rd_T23 t312 0).f0) == 5 && (((rd_T23 t312 0).f1) == 1 && ((((rd_T23 t312 0).f2).toList) == ([97] : List UInt8) && ((((rd_T23 t312 0).f3).toList) == ([118] : List UInt8))))) = true then ((segment_Truncate.f k t297 t298 t299 5).bind fun bt318 => (some (bt318.2.1 == 5))) else (none)) else (none)) else (none)) else (none)) else (none))) else (none))) else (none)) else (none)) else (none)) else (none)) else (none)) = some r := H
 have A4 := Aside0.mk A40
 clear A40
 by_cases c5 : t302 = 5
 ·
  rw [if_pos c5] at H
  have c5b0 : (t302 == 5) = true := beq_iff_eq.mpr c5
  have c5b1 : (t302 != 5) = false := bne_eq_false_iff_eq.mpr c5
  clear c5
  by_cases c6 : t303 = 0
  ·
   rw [if_pos c6] at H
   have c6b0 : (t303 == 0) = true := beq_iff_eq.mpr c6
   have c6b1 : (t303 != 0) = false := bne_eq_false_iff_eq.mpr c6
   clear c6
   by_cases c7 : t297 = 5
   ·
    rw [if_pos c7] at H
    have c7b0 : (t297 == 5) = true := beq_iff_eq.mpr c7
    have c7b1 : (t297 != 5) = false := bne_eq_false_iff_eq.mpr c7
    clear c7
    by_cases c8 : t298 = 6
    ·
     rw [if_pos c8] at H
     have c8b0 : (t298 == 6) = true := beq_iff_eq.mpr c8
     have c8b1 : (t298 != 6) = false := bne_eq_false_iff_eq.mpr c8
     clear c8
     by_cases c9 : (t299.length : Int) = 11
     ·
      rw [if_pos c9] at H
      have c9b0 : ((t299.length : Int) == 11) = true := beq_iff_eq.mpr c9
      have c9b1 : ((t299.length : Int) != 11) = false := bne_eq_false_iff_eq.mpr c9
      clear c9
      replace H := Option.bind_eq_some_iff.mp H
      obtain ⟨t315, A100, H⟩ := H
      replace H : (if t315 = 0 then ((brokerref32_Same.f t305 t306 t307 t297 t298 t299).bind fun t316 => (if t316 = true then (if t310 = 11 then (if (t312.length : Int) = 1 then (if 0 < (t312.length : Int) then (if (((rd_T23 t312 0).f0) == 5 && (((rd_T23 t312 0).f1) == 1 && ((((rd_T23 t312 0).f2).toList) == ([97] : List UInt8) && ((((rd_T23 t312 0).f3).toList) == ([118] : List UInt8))))) = true then ((segment_Truncate.f k t297 t298 t299 5).bind fun bt318 => (some (bt318.2.1 == 5))) else (none)) else (none)) else (none)) else (none)) else (none))) else (none)) = some r := H
      have A10 := Aside0.mk A100
      clear A100
      by_cases c11 : t315 = 0
      ·
       rw [if_pos c11] at H
       have c11b0 : (t315 == 0) = true := beq_iff_eq.mpr c11
       have c11b1 : (t315 != 0) = false := bne_eq_false_iff_eq.mpr c11
       clear c11
       replace H := Option.bind_eq_some_iff.mp H
       obtain ⟨t316, A120, H⟩ := H
       replace H : (if t316 = true then (if t310 = 11 then (if (t312.length : Int) = 1 then (if 0 < (t312.length : Int) then (if (((rd_T23 t312 0).f0) == 5 && (((rd_T23 t312 0).f1) == 1 && ((((rd_T23 t312 0).f2).toList) == ([97] : List UInt8) && ((((rd_T23 t312 0).f3).toList) == ([118] : List UInt8))))) = true then ((segment_Truncate.f k t297 t298 t299 5).bind fun bt318 => (some (bt318.2.1 == 5))) else (none)) else (none)) else (none)) else (none)) else (none)) = some r := H
       have A12 := Aside0.mk A120
       clear A120
       by_cases c13 : t316 = true
       ·
        subst c13
        have H1 : (if t310 = 11 then (if (t312.length : Int) = 1 then (if 0 < (t312.length : Int) then (if (((rd_T23 t312 0).f0) == 5 && (((rd_T23 t312 0).f1) == 1 && ((((rd_T23 t312 0).f2).toList) == ([97] : List UInt8) && ((((rd_T23 t312 0).f3).toList) == ([118] : List UInt8))))) = true then ((segment_Truncate.f k t297 t298 t299 5).bind fun bt318 => (some (bt318.2.1 == 5))) else (none)) else (none)) else (none)) else (none)) = some r := by rw [if_pos rfl] at H; exact H
        clear H
        have H := H1
        clear H1
        by_cases c14 : t310 = 11
        ·
         rw [if_pos c14] at H
         have c14b0 : (t310 == 11) = true := beq_iff_eq.mpr c14
         have c14b1 : (t310 != 11) = false := bne_eq_false_iff_eq.mpr c14
         clear c14
         by_cases c15 : (t312.length : Int) = 1
         ·
          rw [if_pos c15] at H
          have c15b0 : ((t312.length : Int) == 1) = true := beq_iff_eq.mpr c15
          have c15b1 : ((t312.length : Int) != 1) = false := bne_eq_false_iff_eq.mpr c15
          clear c15
          by_cases c16 : 0 < (t312.length : Int)
          ·
           rw [if_pos c16] at H
           have c16b0 : decide (0 < (t312.length : Int)) = true := decide_eq_true c16
           have c16b1 : decide (0 < t312.length) = true := decide_eq_true (by omega)
           clear c16
           by_cases c17 : (((rd_T23 t312 0).f0) == 5 && (((rd_T23 t312 0).f1) == 1 && ((((rd_T23 t312 0).f2).toList) == ([97] : List UInt8) && ((((rd_T23 t312 0).f3).toList) == ([118] : List UInt8))))) = true
           ·
            rw [if_pos c17] at H
            have c17b0 : (((rd_T23 t312 0).f0) == 5 && (((rd_T23 t312 0).f1) == 1 && ((((rd_T23 t312 0).f2).toList) == ([97] : List UInt8) && ((((rd_T23 t312 0).f3).toList) == ([118] : List UInt8))))) = true := c17
            (try (have c17b1 : decide (((rd_T23 t312 0).f0) = 5 && (((rd_T23 t312 0).f1) == 1 && ((((rd_T23 t312 0).f2).toList) == ([97] : List UInt8) && ((((rd_T23 t312 0).f3).toList) == ([118] : List UInt8))))) = true := by simpa using c17))
            (try (have c17b2 : (((rd_T23 t312 0).f0) == 5 && (((rd_T23 t312 0).f1) == 1 && ((((rd_T23 t312 0).f2).toList) == ([97] : List UInt8) && ((((rd_T23 t312 0).f3).toList) == ([118] : List UInt8))))) = true := by simpa using c17))
            clear c17
            replace H := Option.bind_eq_some_iff.mp H
            obtain ⟨⟨t318, t319, t320⟩, A180, H⟩ := H
            replace H : (some (t319 == 5)) = some r := H
            have A18 := Aside0.mk A180
            clear A180
            obtain rfl := Option.some.inj H
            go_enter Try.func47, Try.ntmps47
            go_wp2_with (first | ((with_reducible refine gate_callee (f := 51) rfl ?_); refine Hlp.gl (some 8) Try.func51 #[.int .i64 5] ?_; (with_reducible refine (segment_New.calls 5 t292 t293 t294 _ A1.out).mono ?_); rintro e w19 ⟨v295, rfl, ho0, hb⟩; refine ⟨_, rfl, ?_⟩; have HO296 := Aside0.mk (Kd.R_lower ho0 (below_size (Hlp.bl HB.out))); replace HB := Aside0.mk (below_step (Hlp.bl HB.out) hb); (try clear hb); (try clear hb2); (try clear hk); (try clear hi); (try clear ho0); obtain ⟨Ao20, co20, eo20⟩ := Kd.R_slice HO296.out; subst eo20) | ((with_reducible refine gate_callee (f := 53) rfl ?_); refine Hlp.gl (some 9) Try.func53 #[.agg #[.int .i64 t292, .int .i64 t293, .slice Ao20 t294.length co20], .int .i64 1, .string (⟨#[97]⟩ : ByteArray), .string (⟨#[118]⟩ : ByteArray)] ?_; (with_reducible refine (segment_Append.calls k t292 t293 _ _ t294 1 (⟨#[97]⟩ : ByteArray) (⟨#[118]⟩ : ByteArray) t297 t298 t299 t302 t303 _ ?side1 ?side2 A2.out).mono ?_); (case side1 => exact Hlp.cp (Kd.R_reads' HO296.out).2.2); (case side2 => exact (Kd.R_reads' HO296.out).2.1); rintro e w21 ⟨v300, rfl, ho0, hb⟩; refine ⟨_, rfl, ?_⟩; have HO301 := Aside0.mk (Kd.R_lower (Kd.R_new' ho0 (Kd.R_lt (Hlp.rp HO296.out))) (below_size (Hlp.bl HB.out))); replace HO296 := Aside0.mk (Kd.R_elder' (Hlp.rp HO296.out) (Kd.R_base ho0) hb); replace HB := Aside0.mk (below_step (Hlp.bl HB.out) hb); (try clear hb); (try clear hb2); (try clear hk); (try clear hi); (try clear ho0)) | ((with_reducible refine gate_dst (N := 1) rfl ?_); (try (refine gate_guard (by rfl) ?_; dsimp only)); refine Hlp.bx (N := 1) (cs := #[.int .i64 0, .int .i64 0, .slice none 0 0]) (t := 43) ?_; intro gb304 hg w22 hbox hb; replace HO296 := Aside0.mk (Kd.R_below (Hlp.rp HO296.out) hb); replace HO301 := Aside0.mk (Kd.R_below (Hlp.rp HO301.out) hb); have BK304 := Aside0.mk (hbox); have GW304 := Aside0.mk ((by rw [hg]; exact (below_size (Hlp.bl HB.out)) : w.heap.size ≤ gb304)); have GE304 := Aside0.mk ((by rw [hg]; exact (below_size (Hlp.bl HB.out)) : w.heap.size ≤ gb304)); replace HB := Aside0.mk (below_step (Hlp.bl HB.out) hb); clear hb hbox hg; have hcz23_0 : w22.cell? ⟨gb304, 0, none⟩ = some (.int .i64 0) := (blk_cell BK304.out 0).trans rfl; have hcz23_1 : w22.cell? ⟨gb304, 1, none⟩ = some (.int .i64 0) := (blk_cell BK304.out 1).trans rfl; have hcz23_2 : w22.cell? ⟨gb304, 2, none⟩ = some (.slice none 0 0) := (blk_cell BK304.out 2).trans rfl; have hfz23_0 := blk_frozen BK304.out 0; have hfz23_1 := blk_frozen BK304.out 1; have hfz23_2 := blk_frozen BK304.out 2; obtain ⟨Ao24, co24, eo24⟩ := Kd.R_slice HO301.out; subst eo24) | ((with_reducible refine gate_callee (f := 59) rfl ?_); refine Hlp.gl (some 16) Try.func59 #[.slice Ao24 t299.length co24, .int .i64 5] ?_; (with_reducible refine (segment_Recover.calls k _ _ t299 5 t305 t306 t307 t310 _ ?side1 ?side2 A3.out).mono ?_); (case side1 => refine (Kd.R_reads' (e := 5) (base := w.heap.size) (ok := fun k_ => (True ∧ some k_ ≠ (.slice Ao20 t294.length co20 : Value).ownBlock)) (n := t299.length) (c := co24) ?_).2.2; exact (by (with_reducible repeat (first | apply Kd.R_alloc | apply Kd.R_drewN | apply Kd.R_drew)); exact (Kd.R_mono (Kd.R_far (p := ⟨gb304, 2, none⟩) (Kd.R_far (p := ⟨gb304, 1, none⟩) (Kd.R_far (p := ⟨gb304, 0, none⟩) (Kd.R_types HO301.out BK304.out (by decide)) (fun _ hk => hk.2) (.int .i64 t297)) (fun _ hk => hk.2) (.int .i64 t298)) (fun _ hk => hk.2) (.slice Ao24 t299.length co24)) (fun _ h_ => h_.1)))); (case side2 => exact (Kd.R_reads' HO301.out).2.1); rintro e w25 ⟨v308, rfl, ho0, hb⟩; refine ⟨_, rfl, ?_⟩; have HO309 := Aside0.mk (Kd.R_lower (Kd.R_new' (Kd.R_new' ho0 (Kd.R_lt (by (with_reducible repeat (first | apply Kd.R_alloc | apply Kd.R_drewN | apply Kd.R_drew)); exact (Kd.R_mono (Kd.R_far (p := ⟨gb304, 2, none⟩) (Kd.R_far (p := ⟨gb304, 1, none⟩) (Kd.R_far (p := ⟨gb304, 0, none⟩) (Kd.R_types HO296.out BK304.out (by decide)) (fun _ hk => hk.2) (.int .i64 t297)) (fun _ hk => hk.2) (.int .i64 t298)) (fun _ hk => hk.2) (.slice Ao24 t299.length co24)) (fun _ h_ => h_.1))))) (Kd.R_lt (by (with_reducible repeat (first | apply Kd.R_alloc | apply Kd.R_drewN | apply Kd.R_drew)); exact (Kd.R_mono (Kd.R_far (p := ⟨gb304, 2, none⟩) (Kd.R_far (p := ⟨gb304, 1, none⟩) (Kd.R_far (p := ⟨gb304, 0, none⟩) (Kd.R_types HO301.out BK304.out (by decide)) (fun _ hk => hk.2) (.int .i64 t297)) (fun _ hk => hk.2) (.int .i64 t298)) (fun _ hk => hk.2) (.slice Ao24 t299.length co24)) (fun _ h_ => h_.1))))) (below_size (Hlp.bl HB.out))); replace HO296 := Aside0.mk (Kd.R_elder' (by (with_reducible repeat (first | apply Kd.R_alloc | apply Kd.R_drewN | apply Kd.R_drew)); exact (Kd.R_mono (Kd.R_far (p := ⟨gb304, 2, none⟩) (Kd.R_far (p := ⟨gb304, 1, none⟩) (Kd.R_far (p := ⟨gb304, 0, none⟩) (Kd.R_types HO296.out BK304.out (by decide)) (fun _ hk => hk.2) (.int .i64 t297)) (fun _ hk => hk.2) (.int .i64 t298)) (fun _ hk => hk.2) (.slice Ao24 t299.length co24)) (fun _ h_ => h_.1))) (Kd.R_base ho0) hb); replace HO301 := Aside0.mk (Kd.R_elder' (by (with_reducible repeat (first | apply Kd.R_alloc | apply Kd.R_drewN | apply Kd.R_drew)); exact (Kd.R_mono (Kd.R_far (p := ⟨gb304, 2, none⟩) (Kd.R_far (p := ⟨gb304, 1, none⟩) (Kd.R_far (p := ⟨gb304, 0, none⟩) (Kd.R_types HO301.out BK304.out (by decide)) (fun _ hk => hk.2) (.int .i64 t297)) (fun _ hk => hk.2) (.int .i64 t298)) (fun _ hk => hk.2) (.slice Ao24 t299.length co24)) (fun _ h_ => h_.1))) (Kd.R_base ho0) hb); replace BK304 := Aside0.mk (blk_below (g := gb304) (o := .cells #[.int .i64 t297, .int .i64 t298, .slice Ao24 t299.length co24] 43 (0, 0)) (by refine Hlp.bp (blk_put (cs := #[.int .i64 t297, .int .i64 t298, .slice none 0 0]) ?_ 2 _ rfl); refine Hlp.bp (blk_put (cs := #[.int .i64 t297, .int .i64 0, .slice none 0 0]) ?_ 1 _ rfl); refine Hlp.bp (blk_put (cs := #[.int .i64 0, .int .i64 0, .slice none 0 0]) ?_ 0 _ rfl); exact Hlp.bp BK304.out) hb); replace HB := Aside0.mk (below_step (Hlp.bl HB.out) hb); (try clear hb); (try clear hb2); (try clear hk); (try clear hi); (try clear ho0)) | ((with_reducible refine gate_dst (N := 4) rfl ?_); (try (refine gate_guard (by rfl) ?_; dsimp only)); refine Hlp.bx (N := 4) (cs := #[.int .i64 0, .int .i64 0, .slice none 0 0]) (t := 43) ?_; intro gb311 hg w26 hbox hb; replace HO296 := Aside0.mk (Kd.R_below (Hlp.rp HO296.out) hb); replace HO301 := Aside0.mk (Kd.R_below (Hlp.rp HO301.out) hb); replace HO309 := Aside0.mk (Kd.R_below (Hlp.rp HO309.out) hb); have BK311 := Aside0.mk (hbox); have GW311 := Aside0.mk ((by rw [hg]; exact (below_size (Hlp.bl HB.out)) : w.heap.size ≤ gb311)); have GE311 := Aside0.mk ((by rw [hg]; exact (below_size (Hlp.bl HB.out)) : w.heap.size ≤ gb311)); replace HB := Aside0.mk (below_step (Hlp.bl HB.out) hb); have NB304_311 := Aside0.mk ((by rw [hg]; exact Nat.ne_of_lt (blk_lt (g := gb304) (o := .cells #[.int .i64 t297, .int .i64 t298, .slice Ao24 t299.length co24] 43 (0, 0)) (Hlp.bp BK304.out)) : gb304 ≠ gb311)); have NB311_304 := Aside0.mk ((by rw [hg]; exact Nat.ne_of_gt (blk_lt (g := gb304) (o := .cells #[.int .i64 t297, .int .i64 t298, .slice Ao24 t299.length co24] 43 (0, 0)) (Hlp.bp BK304.out)) : gb311 ≠ gb304)); replace BK304 := Aside0.mk (blk_below (g := gb304) (o := .cells #[.int .i64 t297, .int .i64 t298, .slice Ao24 t299.length co24] 43 (0, 0)) (Hlp.bp BK304.out) hb); clear hb hbox hg; have hnb27 := NB311_304.out; have hnc27 := NB304_311.out; have hcz28_0 : w26.cell? ⟨gb311, 0, none⟩ = some (.int .i64 0) := (blk_cell BK311.out 0).trans rfl; have hcz28_1 : w26.cell? ⟨gb311, 1, none⟩ = some (.int .i64 0) := (blk_cell BK311.out 1).trans rfl; have hcz28_2 : w26.cell? ⟨gb311, 2, none⟩ = some (.slice none 0 0) := (blk_cell BK311.out 2).trans rfl; have hfz28_0 := blk_frozen BK311.out 0; have hfz28_1 := blk_frozen BK311.out 1; have hfz28_2 := blk_frozen BK311.out 2; obtain ⟨Ao29, co29, eo29⟩ := Kd.R_slice HO309.out; subst eo29; have hcz30_0 : w26.cell? ⟨gb304, 0, none⟩ = some (.int .i64 t297) := (blk_cell BK304.out 0).trans rfl; have hcz30_1 : w26.cell? ⟨gb304, 1, none⟩ = some (.int .i64 t298) := (blk_cell BK304.out 1).trans rfl; have hcz30_2 : w26.cell? ⟨gb304, 2, none⟩ = some (.slice Ao24 t299.length co24) := (blk_cell BK304.out 2).trans rfl; have hfz30_0 := blk_frozen BK304.out 0; have hfz30_1 := blk_frozen BK304.out 1; have hfz30_2 := blk_frozen BK304.out 2) | ((with_reducible refine gate_callee (f := 55) rfl ?_); refine Hlp.gl (some 20) Try.func55 #[.agg #[.int .i64 t297, .int .i64 t298, .slice Ao24 t299.length co24]] ?_; (with_reducible refine (segment_Records.calls k t297 t298 _ _ t299 t312 _ ?side1 ?side2 A4.out).mono ?_); (case side1 => refine (Kd.R_reads' (e := 5) (base := w.heap.size) (ok := fun k_ => ((True ∧ some k_ ≠ (.slice Ao20 t294.length co20 : Value).ownBlock) ∧ some k_ ≠ (.slice Ao29 t307.length co29 : Value).ownBlock)) (n := t299.length) (c := co24) ?_).2.2; exact (by (with_reducible repeat (first | apply Kd.R_alloc | apply Kd.R_drewN | apply Kd.R_drew)); exact (Kd.R_mono (Kd.R_far (p := ⟨gb311, 2, none⟩) (Kd.R_far (p := ⟨gb311, 1, none⟩) (Kd.R_far (p := ⟨gb311, 0, none⟩) (Kd.R_types HO301.out BK311.out (by decide)) (fun _ hk => hk.2) (.int .i64 t305)) (fun _ hk => hk.2) (.int .i64 t306)) (fun _ hk => hk.2) (.slice Ao29 t307.length co29)) (fun _ h_ => h_.1)))); (case side2 => exact (Kd.R_reads' HO301.out).2.1); rintro e w31 ⟨v313, rfl, ho0, hb⟩; refine ⟨_, rfl, ?_⟩; replace HO296 := Aside0.mk (Kd.R_below (by (with_reducible repeat (first | apply Kd.R_alloc | apply Kd.R_drewN | apply Kd.R_drew)); exact (Kd.R_mono (Kd.R_far (p := ⟨gb311, 2, none⟩) (Kd.R_far (p := ⟨gb311, 1, none⟩) (Kd.R_far (p := ⟨gb311, 0, none⟩) (Kd.R_types HO296.out BK311.out (by decide)) (fun _ hk => hk.2) (.int .i64 t305)) (fun _ hk => hk.2) (.int .i64 t306)) (fun _ hk => hk.2) (.slice Ao29 t307.length co29)) (fun _ h_ => h_.1))) hb); replace HO301 := Aside0.mk (Kd.R_below (by (with_reducible repeat (first | apply Kd.R_alloc | apply Kd.R_drewN | apply Kd.R_drew)); exact (Kd.R_mono (Kd.R_far (p := ⟨gb311, 2, none⟩) (Kd.R_far (p := ⟨gb311, 1, none⟩) (Kd.R_far (p := ⟨gb311, 0, none⟩) (Kd.R_types HO301.out BK311.out (by decide)) (fun _ hk => hk.2) (.int .i64 t305)) (fun _ hk => hk.2) (.int .i64 t306)) (fun _ hk => hk.2) (.slice Ao29 t307.length co29)) (fun _ h_ => h_.1))) hb); replace HO309 := Aside0.mk (Kd.R_below (by (with_reducible repeat (first | apply Kd.R_alloc | apply Kd.R_drewN | apply Kd.R_drew)); exact (Kd.R_mono (Kd.R_far (p := ⟨gb311, 2, none⟩) (Kd.R_far (p := ⟨gb311, 1, none⟩) (Kd.R_far (p := ⟨gb311, 0, none⟩) (Kd.R_types HO309.out BK311.out (by decide)) (fun _ hk => hk.2) (.int .i64 t305)) (fun _ hk => hk.2) (.int .i64 t306)) (fun _ hk => hk.2) (.slice Ao29 t307.length co29)) (fun _ h_ => h_.1))) hb); have HO314 := Aside0.mk (Kd.R_lower ho0 (below_size (Hlp.bl HB.out))); replace BK304 := Aside0.mk (blk_below (g := gb304) (o := .cells #[.int .i64 t297, .int .i64 t298, .slice Ao24 t299.length co24] 43 (0, 0)) (by refine Hlp.bp (blk_far ?_ NB304_311.out _); refine Hlp.bp (blk_far ?_ NB304_311.out _); refine Hlp.bp (blk_far ?_ NB304_311.out _); exact Hlp.bp BK304.out) hb); replace BK311 := Aside0.mk (blk_below (g := gb311) (o := .cells #[.int .i64 t305, .int .i64 t306, .slice Ao29 t307.length co29] 43 (0, 0)) (by refine Hlp.bp (blk_put (cs := #[.int .i64 t305, .int .i64 t306, .slice none 0 0]) ?_ 2 _ rfl); refine Hlp.bp (blk_put (cs := #[.int .i64 t305, .int .i64 0, .slice none 0 0]) ?_ 1 _ rfl); refine Hlp.bp (blk_put (cs := #[.int .i64 0, .int .i64 0, .slice none 0 0]) ?_ 0 _ rfl); exact Hlp.bp BK311.out) hb); replace HB := Aside0.mk (below_step (Hlp.bl HB.out) hb); (try clear hb); (try clear hb2); (try clear hk); (try clear hi); (try clear ho0); have hcz32_0 : w31.cell? ⟨gb304, 0, none⟩ = some (.int .i64 t297) := (blk_cell BK304.out 0).trans rfl; have hcz32_1 : w31.cell? ⟨gb304, 1, none⟩ = some (.int .i64 t298) := (blk_cell BK304.out 1).trans rfl; have hcz32_2 : w31.cell? ⟨gb304, 2, none⟩ = some (.slice Ao24 t299.length co24) := (blk_cell BK304.out 2).trans rfl; have hfz32_0 := blk_frozen BK304.out 0; have hfz32_1 := blk_frozen BK304.out 1; have hfz32_2 := blk_frozen BK304.out 2) | (go_at_call 48; (with_reducible refine (segment_Check.calls k t297 t298 _ _ t299 t315 _ ?side1 ?side2 A10.out).mono ?_); (case side1 => exact Hlp.cp (Kd.R_reads' HO301.out).2.2); (case side2 => exact (Kd.R_reads' HO301.out).2.1); rintro e w33 ⟨rfl, hb⟩; replace HO296 := Aside0.mk (Kd.R_below (Hlp.rp HO296.out) hb); replace HO301 := Aside0.mk (Kd.R_below (Hlp.rp HO301.out) hb); replace HO309 := Aside0.mk (Kd.R_below (Hlp.rp HO309.out) hb); replace HO314 := Aside0.mk (Kd.R_below (Hlp.rp HO314.out) hb); replace BK304 := Aside0.mk (blk_below (g := gb304) (o := .cells #[.int .i64 t297, .int .i64 t298, .slice Ao24 t299.length co24] 43 (0, 0)) (Hlp.bp BK304.out) hb); replace BK311 := Aside0.mk (blk_below (g := gb311) (o := .cells #[.int .i64 t305, .int .i64 t306, .slice Ao29 t307.length co29] 43 (0, 0)) (Hlp.bp BK311.out) hb); replace HB := Aside0.mk (below_step (Hlp.bl HB.out) hb); (try clear hb); (try clear hb2); (try clear hk); (try clear hi); have hcz34_0 : w33.cell? ⟨gb311, 0, none⟩ = some (.int .i64 t305) := (blk_cell BK311.out 0).trans rfl; have hcz34_1 : w33.cell? ⟨gb311, 1, none⟩ = some (.int .i64 t306) := (blk_cell BK311.out 1).trans rfl; have hcz34_2 : w33.cell? ⟨gb311, 2, none⟩ = some (.slice Ao29 t307.length co29) := (blk_cell BK311.out 2).trans rfl; have hfz34_0 := blk_frozen BK311.out 0; have hfz34_1 := blk_frozen BK311.out 1; have hfz34_2 := blk_frozen BK311.out 2; have hcz35_0 : w33.cell? ⟨gb304, 0, none⟩ = some (.int .i64 t297) := (blk_cell BK304.out 0).trans rfl; have hcz35_1 : w33.cell? ⟨gb304, 1, none⟩ = some (.int .i64 t298) := (blk_cell BK304.out 1).trans rfl; have hcz35_2 : w33.cell? ⟨gb304, 2, none⟩ = some (.slice Ao24 t299.length co24) := (blk_cell BK304.out 2).trans rfl; have hfz35_0 := blk_frozen BK304.out 0; have hfz35_1 := blk_frozen BK304.out 1; have hfz35_2 := blk_frozen BK304.out 2) | (go_at_call 50; (with_reducible refine (brokerref32_Same.calls t305 t306 _ _ t307 t297 t298 _ _ t299 true _ ?side1 ?side2 ?side3 ?side4 A12.out).mono ?_); (case side1 => exact Hlp.cp (Kd.R_reads' HO309.out).2.2); (case side2 => exact (Kd.R_reads' HO309.out).2.1); (case side3 => exact Hlp.cp (Kd.R_reads' HO301.out).2.2); (case side4 => exact (Kd.R_reads' HO301.out).2.1); rintro e w36 ⟨rfl, hb⟩; replace HO296 := Aside0.mk (Kd.R_below (Hlp.rp HO296.out) hb); replace HO301 := Aside0.mk (Kd.R_below (Hlp.rp HO301.out) hb); replace HO309 := Aside0.mk (Kd.R_below (Hlp.rp HO309.out) hb); replace HO314 := Aside0.mk (Kd.R_below (Hlp.rp HO314.out) hb); replace BK304 := Aside0.mk (blk_below (g := gb304) (o := .cells #[.int .i64 t297, .int .i64 t298, .slice Ao24 t299.length co24] 43 (0, 0)) (Hlp.bp BK304.out) hb); replace BK311 := Aside0.mk (blk_below (g := gb311) (o := .cells #[.int .i64 t305, .int .i64 t306, .slice Ao29 t307.length co29] 43 (0, 0)) (Hlp.bp BK311.out) hb); replace HB := Aside0.mk (below_step (Hlp.bl HB.out) hb); (try clear hb); (try clear hb2); (try clear hk); (try clear hi); obtain ⟨Ao37, co37, eo37⟩ := Kd.R_slice HO314.out; subst eo37; have p317 : 0 ≤ (0 : Int) := (by omega); have q317 : 0 < (t312.length : Int) := of_decide_eq_true (by first | (with_reducible assumption) | assumption); obtain ⟨ad317, e317, hx317_0, hx317_1, hx317_2, hx317_3⟩ := at_T23 (Kd.R_reads' HO314.out).2.2 0 p317 q317; cases e317; have qi317 : (0 < t312.length) = True := eq_true (by omega); (try rw [show ((0 : Int)).toNat = 0 from rfl] at hx317_0); (try rw [show 0 * 4 = 0 from rfl] at hx317_0); (try rw [Addr.add_zero'] at hx317_0); (try rw [show ((0 : Int)).toNat = 0 from rfl] at hx317_1); (try rw [show 0 * 4 = 0 from rfl] at hx317_1); (try rw [Addr.add_zero'] at hx317_1); (try rw [show ((0 : Int)).toNat = 0 from rfl] at hx317_2); (try rw [show 0 * 4 = 0 from rfl] at hx317_2); (try rw [Addr.add_zero'] at hx317_2); (try rw [show ((0 : Int)).toNat = 0 from rfl] at hx317_3); (try rw [show 0 * 4 = 0 from rfl] at hx317_3); (try rw [Addr.add_zero'] at hx317_3); replace p317 := eq_true p317; replace q317 := eq_true q317; have hcz38_0 : w36.cell? ⟨gb304, 0, none⟩ = some (.int .i64 t297) := (blk_cell BK304.out 0).trans rfl; have hcz38_1 : w36.cell? ⟨gb304, 1, none⟩ = some (.int .i64 t298) := (blk_cell BK304.out 1).trans rfl; have hcz38_2 : w36.cell? ⟨gb304, 2, none⟩ = some (.slice Ao24 t299.length co24) := (blk_cell BK304.out 2).trans rfl; have hfz38_0 := blk_frozen BK304.out 0; have hfz38_1 := blk_frozen BK304.out 1; have hfz38_2 := blk_frozen BK304.out 2) | (go_at_call 57; (with_reducible refine (segment_Truncate.calls k t297 t298 _ _ t299 5 t318 t319 t320 _ ?side1 ?side2 A18.out).mono ?_); (case side1 => exact Hlp.cp (Kd.R_reads' HO301.out).2.2); (case side2 => exact (Kd.R_reads' HO301.out).2.1); rintro e w39 ⟨v321, rfl, ho0, hb⟩; replace HO314 := Aside0.mk (Kd.R_below (Hlp.rp HO314.out) hb); have HO322 := Aside0.mk (Kd.R_lower (Kd.R_new' (Kd.R_new' (Kd.R_new' ho0 (Kd.R_lt (Hlp.rp HO296.out))) (Kd.R_lt (Hlp.rp HO301.out))) (Kd.R_lt (Hlp.rp HO309.out))) (below_size (Hlp.bl HB.out))); replace HO296 := Aside0.mk (Kd.R_elder' (Hlp.rp HO296.out) (Kd.R_base ho0) hb); replace HO301 := Aside0.mk (Kd.R_elder' (Hlp.rp HO301.out) (Kd.R_base ho0) hb); replace HO309 := Aside0.mk (Kd.R_elder' (Hlp.rp HO309.out) (Kd.R_base ho0) hb); replace BK304 := Aside0.mk (blk_below (g := gb304) (o := .cells #[.int .i64 t297, .int .i64 t298, .slice Ao24 t299.length co24] 43 (0, 0)) (Hlp.bp BK304.out) hb); replace BK311 := Aside0.mk (blk_below (g := gb311) (o := .cells #[.int .i64 t305, .int .i64 t306, .slice Ao29 t307.length co29] 43 (0, 0)) (Hlp.bp BK311.out) hb); replace HB := Aside0.mk (below_step (Hlp.bl HB.out) hb); (try clear hb); (try clear hb2); (try clear hk); (try clear hi); (try clear ho0); (try (obtain ⟨Aoq_, coq_, eoq_⟩ := Kd.R_slice HO322.out; subst eoq_; have hfq_ := fun W_ => fld43_47 t318 t319 (.slice Aoq_ t320.length coq_) W_))))
            go_ret
            exact ⟨by first | rfl | (simp [errW_none, errW_some] <;> rfl) | (simp [*, errW_none, errW_some] <;> rfl), Hlp.bl HB.out⟩
           ·
            rw [if_neg c17] at H
            have c17b0 : (((rd_T23 t312 0).f0) == 5 && (((rd_T23 t312 0).f1) == 1 && ((((rd_T23 t312 0).f2).toList) == ([97] : List UInt8) && ((((rd_T23 t312 0).f3).toList) == ([118] : List UInt8))))) = false := by simpa using c17
            (try (have c17b1 : decide (((rd_T23 t312 0).f0) = 5 && (((rd_T23 t312 0).f1) == 1 && ((((rd_T23 t312 0).f2).toList) == ([97] : List UInt8) && ((((rd_T23 t312 0).f3).toList) == ([118] : List UInt8))))) = false := by simpa using c17))
            (try (have c17b2 : (((rd_T23 t312 0).f0) == 5 && (((rd_T23 t312 0).f1) == 1 && ((((rd_T23 t312 0).f2).toList) == ([97] : List UInt8) && ((((rd_T23 t312 0).f3).toList) == ([118] : List UInt8))))) = false := by simpa using c17))
            (try (have c17b3 : ¬ (((rd_T23 t312 0).f0) = 5 && (((rd_T23 t312 0).f1) == 1 && ((((rd_T23 t312 0).f2).toList) == ([97] : List UInt8) && ((((rd_T23 t312 0).f3).toList) == ([118] : List UInt8))))) := by simpa using c17))
            clear c17
            exact absurd H (by simp)
          ·
           rw [if_neg c16] at H
           exact absurd H (by simp)
         ·
          rw [if_neg c15] at H
          have c15b0 : ((t312.length : Int) == 1) = false := beq_eq_false_iff_ne.mpr c15
          have c15b1 : ((t312.length : Int) != 1) = true := bne_iff_ne.mpr c15
          exact absurd H (by simp)
        ·
         rw [if_neg c14] at H
         have c14b0 : (t310 == 11) = false := beq_eq_false_iff_ne.mpr c14
         have c14b1 : (t310 != 11) = true := bne_iff_ne.mpr c14
         exact absurd H (by simp)
       ·
        replace c13 := Bool.eq_false_iff.mpr c13
        subst c13
        have H1 : (none) = some r := by rw [if_neg (show ¬ (false = true) by decide)] at H; exact H
        clear H
        have H := H1
        clear H1
        exact absurd H (by simp)
      ·
       rw [if_neg c11] at H
       have c11b0 : (t315 == 0) = false := beq_eq_false_iff_ne.mpr c11
       have c11b1 : (t315 != 0) = true := bne_iff_ne.mpr c11
       exact absurd H (by simp)
     ·
      rw [if_neg c9] at H
      have c9b0 : ((t299.length : Int) == 11) = false := beq_eq_false_iff_ne.mpr c9
      have c9b1 : ((t299.length : Int) != 11) = true := bne_iff_ne.mpr c9
      exact absurd H (by simp)
    ·
     rw [if_neg c8] at H
     have c8b0 : (t298 == 6) = false := beq_eq_false_iff_ne.mpr c8
     have c8b1 : (t298 != 6) = true := bne_iff_ne.mpr c8
     exact absurd H (by simp)
   ·
    rw [if_neg c7] at H
    have c7b0 : (t297 == 5) = false := beq_eq_false_iff_ne.mpr c7
    have c7b1 : (t297 != 5) = true := bne_iff_ne.mpr c7
    exact absurd H (by simp)
  ·
   rw [if_neg c6] at H
   have c6b0 : (t303 == 0) = false := beq_eq_false_iff_ne.mpr c6
   have c6b1 : (t303 != 0) = true := bne_iff_ne.mpr c6
   exact absurd H (by simp)
 ·
  rw [if_neg c5] at H
  have c5b0 : (t302 == 5) = false := beq_eq_false_iff_ne.mpr c5
  have c5b1 : (t302 != 5) = true := bne_iff_ne.mpr c5
  exact absurd H (by simp)

end Go.Proofs.Ytkkelbakadbbhaa.J
