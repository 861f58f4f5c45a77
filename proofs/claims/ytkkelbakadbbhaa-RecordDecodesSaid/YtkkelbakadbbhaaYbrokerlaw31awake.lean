/- Lean functions that compute what the Go functions named below compute; each theorem '.calls': if its Lean function has an answer, the Go function returns it. -/
import Derived.Test.YtkkelbakadbbhaaYx0
import Derived.Test.YtkkelbakadbbhaaH
import Derived.Test.YtkkelbakadbbhaaYeq0
import Derived.Test.YtkkelbakadbbhaaYpack0
import Derived.Test.YtkkelbakadbbhaaYrecord0
import Derived.Test.YtkkelbakadbbhaaYrecord1
import Derived.Test.YtkkelbakadbbhaaYrecord2
namespace Go.Proofs.Ytkkelbakadbbhaa.J
open Go.RowKit Go.Proofs.YtkkelbakadbbhaaW.PrintWords Go.Proofs.YtkkelbakadbbhaaW.PrintLast Go.Proofs.YtkkelbakadbbhaaW.PrintMore
attribute [local go_sem] max2_int min2_int max_two min_two max_three min_three max_four min_four   -- for this text's walks alone
set_option linter.unusedVariables false
set_option linter.unusedSimpArgs false

attribute [local go_sem high] eqA23
/-! ### brokerlaw31_awake: function 24 -/
def brokerlaw31_awake.f (k : Nat)  : Option (Bool) := (record_Encode.f k 0 1 (⟨#[97]⟩ : ByteArray) (⟨#[118]⟩ : ByteArray)).bind fun bt217 => ((record_Decode.f k bt217.1 0).bind fun bt221 => ((record_Check.f k 0 1 (⟨#[97]⟩ : ByteArray) (⟨#[118]⟩ : ByteArray)).bind fun t228 => (if t228 = 0 then (if bt217.2 = 0 then (if (bt217.1.length : Int) = 11 then (if 0 < (bt217.1.length : Int) then (if (rd bt217.1 0) = 12 then (if 5 ≤ (bt217.1.length : Int) then (if (strOfNums (bt217.1.drop 5)).toList = ([0, 2, 2, 97, 2, 118] : List UInt8) then (if (bt221.1 == 0 && (bt221.2.1 == 1 && (bt221.2.2.1.toList == ([97] : List UInt8) && (bt221.2.2.2.1.toList == ([118] : List UInt8))))) = true then (if bt221.2.2.2.2.1 = 11 then (if bt221.2.2.2.2.2 = 0 then ((record_Size.f k 0 1 (⟨#[97]⟩ : ByteArray) (⟨#[118]⟩ : ByteArray)).bind fun t234 => (some (t234 == 11))) else (none)) else (none)) else (none)) else (none)) else (none)) else (none)) else (none)) else (none)) else (none)) else (none))))
theorem brokerlaw31_awake.mono : ∀ k, LeO (brokerlaw31_awake.f k ) (brokerlaw31_awake.f (k + 1) ) := by
 intro  k
 unfold brokerlaw31_awake.f
 repeat' first
  | (with_reducible exact record_Check.mono _ _ _ _ _)
  | (with_reducible exact record_Decode.mono _ _ _)
  | (with_reducible exact record_Encode.mono _ _ _ _ _)
  | (with_reducible exact record_Size.mono _ _ _ _ _)
  | (with_reducible exact LeO.refl _)
  | (with_reducible exact LeO.none _)
  | (with_reducible refine LeO.ite ?_ ?_)
  | (with_reducible refine LeO.bind ?_ (fun _ => ?_))
  | exact record_Check.mono _ _ _ _ _
  | exact record_Decode.mono _ _ _
  | exact record_Encode.mono _ _ _ _ _
  | exact record_Size.mono _ _ _ _ _
  | exact LeO.none _
  | refine LeO.ite ?_ ?_
  | refine LeO.bind ?_ (fun _ => ?_)
set_option maxHeartbeats 8000000 in
set_option maxRecDepth 100000 in
theorem brokerlaw31_awake.calls (k : Nat)  (r : Bool) (w : World) (h : brokerlaw31_awake.f k  = some r) :
 Calls Try.prog 24 #[] w fun e w' => e = .returned (.bool r) ∧ Below w.heap.size w w' := by
 have hu23 := Try.underlying23
 have HB := Aside0.mk (Below.refl w.heap.size w)
 have H : ((record_Encode.f k 0 1 (⟨#[97]⟩ : ByteArray) (⟨#[118]⟩ : ByteArray)).bind fun bt217 => ((record_Decode.f k bt217.1 0).bind fun bt221 => ((record_Check.f k 0 1 (⟨#[97]⟩ : ByteArray) (⟨#[118]⟩ : ByteArray)).bind fun t228 => (if t228 = 0 then (if bt217.2 = 0 then (if (bt217.1.length : Int) = 11 then (if 0 < (bt217.1.length : Int) then (if (rd bt217.1 0) = 12 then (if 5 ≤ (bt217.1.length : Int) then (if (strOfNums (bt217.1.drop 5)).toList = ([0, 2, 2, 97, 2, 118] : List UInt8) then (if (bt221.1 == 0 && (bt221.2.1 == 1 && (bt221.2.2.1.toList == ([97] : List UInt8) && (bt221.2.2.2.1.toList == ([118] : List UInt8))))) = true then (if bt221.2.2.2.2.1 = 11 then (if bt221.2.2.2.2.2 = 0 then ((record_Size.f k 0 1 (⟨#[97]⟩ : ByteArray) (⟨#[118]⟩ : ByteArray)).bind fun t234 => (some (t234 == 11))) else (none)) else (none)) else (none)) else (none)) else (none)) else (none)) else (none)) else (none)) else (none)) else (none))))) = some r := h
 clear h
 replace H := Option.bind_eq_some_iff.mp H
 obtain ⟨⟨t217, t220⟩, A10, H⟩ := H
 replace H : ((record_Decode.f k t217 0).bind fun bt221 => ((record_Check.f k 0 1 (⟨#[97]⟩ : ByteArray) (⟨#[118]⟩ : ByteArray)).bind fun t228 => (if t228 = 0 then (if t220 = 0 then (if (t217.length : Int) = 11 then (if 0 < (t217.length : Int) then (if (rd t217 0) = 12 then (if 5 ≤ (t217.length : Int) then (if (strOfNums (t217.drop 5)).toList = ([0, 2, 2, 97, 2, 118] : List UInt8) then (if (bt221.1 == 0 && (bt221.2.1 == 1 && (bt221.2.2.1.toList == ([97] : List UInt8) && (bt221.2.2.2.1.toList == ([118] : List UInt8))))) = true then (if bt221.2.2.2.2.1 = 11 then (if bt221.2.2.2.2.2 = 0 then ((record_Size.f k 0 1 (⟨#[97]⟩ : ByteArray) (⟨#[118]⟩ : ByteArray)).bind fun t234 => (some (t234 == 11))) else (none)) else (none)) else (none)) else (none)) else (none)) else (none)) else (none)) else (none)) else (none)) else (none)))) = some r := H
 have A1 := Aside0.mk A10
 clear A10
 replace H := Option.bind_eq_some_iff.mp H
 obtain ⟨⟨t221, t222, t223, t224, t225, t226⟩, A20, H⟩ := H
 replace H : ((record_Check.f k 0 1 (⟨#[97]⟩ : ByteArray) (⟨#[118]⟩ : ByteArray)).bind fun t228 => (if t228 = 0 then (if t220 = 0 then (if (t217.length : Int) = 11 then (if 0 < (t217.length : Int) then (if (rd t217 0) = 12 then (if 5 ≤ (t217.length : Int) then (if (strOfNums (t217.drop 5)).toList = ([0, 2, 2, 97, 2, 118] : List UInt8) then (if (t221 == 0 && (t222 == 1 && (t223.toList == ([97] : List UInt8) && (t224.toList == ([118] : List UInt8))))) = true then (if t225 = 11 then (if t226 = 0 then ((record_Size.f k 0 1 (⟨#[97]⟩ : ByteArray) (⟨#[118]⟩ : ByteArray)).bind fun t234 => (some (t234 == 11))) else (none)) else (none)) else (none)) else (none)) else (none)) else (none)) else (none)) else (none)) else (none)) else (none))) = some r := H
 have A2 := Aside0.mk A20
 clear A20
 replace H := Option.bind_eq_some_iff.mp H
 obtain ⟨t228, A30, H⟩ := H
 replace H : (if t228 = 0 then (if t220 = 0 then (if (t217.length : Int) = 11 then (if 0 < (t217.length : Int) then (if (rd t217 0) = 12 then (if 5 ≤ (t217.length : Int) then (if (strOfNums (t217.drop 5)).toList = ([0, 2, 2, 97, 2, 118] : List UInt8) then (if (t221 == 0 && (t222 == 1 && (t223.toList == ([97] : List UInt8) && (t224.toList == ([118] : List UInt8))))) = true then (if t225 = 11 then (if t226 = 0 then ((record_Size.f k 0 1 (⟨#[97]⟩ : ByteArray) (⟨#[118]⟩ : ByteArray)).bind fun t234 => (some (t234 == 11))) else (none)) else (none)) else (none)) else (none)) else (none)) else (none)) else (none)) else (none)) else (none)) else (none)) = some r := H
 have A3 := Aside0.mk A30
 clear A30
 by_cases c4 : t228 = 0
 ·
  rw [if_pos c4] at H
  have c4b0 : (t228 == 0) = true := beq_iff_eq.mpr c4
  have c4b1 : (t228 != 0) = false := bne_eq_false_iff_eq.mpr c4
  clear c4
  by_cases c5 : t220 = 0
  ·
   rw [if_pos c5] at H
   have c5b0 : (t220 == 0) = true := beq_iff_eq.mpr c5
   have c5b1 : (t220 != 0) = false := bne_eq_false_iff_eq.mpr c5
   clear c5
   by_cases c6 : (t217.length : Int) = 11
   ·
    rw [if_pos c6] at H
    have c6b0 : ((t217.length : Int) == 11) = true := beq_iff_eq.mpr c6
    have c6b1 : ((t217.length : Int) != 11) = false := bne_eq_false_iff_eq.mpr c6
    clear c6
    by_cases c7 : 0 < (t217.length : Int)
    ·
     rw [if_pos c7] at H
     have c7b0 : decide (0 < (t217.length : Int)) = true := decide_eq_true c7
     have c7b1 : decide (0 < t217.length) = true := decide_eq_true (by omega)
     clear c7
     by_cases c8 : (rd t217 0) = 12
     ·
      rw [if_pos c8] at H
      have c8b0 : ((rd t217 0) == 12) = true := beq_iff_eq.mpr c8
      have c8b1 : ((rd t217 0) != 12) = false := bne_eq_false_iff_eq.mpr c8
      clear c8
      by_cases c9 : 5 ≤ (t217.length : Int)
      ·
       rw [if_pos c9] at H
       have c9b0 := eq_true c9
       have c9b1 : decide (5 ≤ (t217.length : Int)) = true := decide_eq_true c9
       clear c9
       obtain ⟨y230, hy230⟩ : ∃ y_ : List Int, y_ = (t217.drop 5) := ⟨_, rfl⟩
       replace H : (if (strOfNums y230).toList = ([0, 2, 2, 97, 2, 118] : List UInt8) then (if (t221 == 0 && (t222 == 1 && (t223.toList == ([97] : List UInt8) && (t224.toList == ([118] : List UInt8))))) = true then (if t225 = 11 then (if t226 = 0 then ((record_Size.f k 0 1 (⟨#[97]⟩ : ByteArray) (⟨#[118]⟩ : ByteArray)).bind fun t234 => (some (t234 == 11))) else (none)) else (none)) else (none)) else (none)) = some r := by first | (rw [hy230]; with_reducible exact H) | (have H2_ := (Option.bind_some _ _).symm.trans H; rw [hy230]; with_reducible exact H2_) | (have H2_ := (Option.bind_some _ _).symm.trans H; with_reducible exact H2_) | with_reducible exact H | (rw [hy230]; exact H) | exact H
       have Ny230 := Aside0.mk hy230
       clear hy230
       by_cases c10 : (strOfNums y230).toList = ([0, 2, 2, 97, 2, 118] : List UInt8)
       ·
        rw [if_pos c10] at H
        have c10b0 : ((strOfNums y230).toList == ([0, 2, 2, 97, 2, 118] : List UInt8)) = true := beq_iff_eq.mpr c10
        have c10b1 : ((strOfNums y230).toList != ([0, 2, 2, 97, 2, 118] : List UInt8)) = false := bne_eq_false_iff_eq.mpr c10
        clear c10
        by_cases c11 : (t221 == 0 && (t222 == 1 && (t223.toList == ([97] : List UInt8) && (t224.toList == ([118] : List UInt8))))) = true
        ·
         rw [if_pos c11] at H
         have c11b0 : (t221 == 0 && (t222 == 1 && (t223.toList == ([97] : List UInt8) && (t224.toList == ([118] : List UInt8))))) = true := c11
         (try (have c11b1 : decide (t221 = 0 && (t222 == 1 && (t223.toList == ([97] : List UInt8) && (t224.toList == ([118] : List UInt8))))) = true := by simpa using c11))
         (try (have c11b2 : (t221 == 0 && (t222 == 1 && (t223.toList == ([97] : List UInt8) && (t224.toList == ([118] : List UInt8))))) = true := by simpa using c11))
         clear c11
         by_cases c12 : t225 = 11
         ·
          rw [if_pos c12] at H
          have c12b0 : (t225 == 11) = true := beq_iff_eq.mpr c12
          have c12b1 : (t225 != 11) = false := bne_eq_false_iff_eq.mpr c12
          clear c12
          by_cases c13 : t226 = 0
          ·
           rw [if_pos c13] at H
           have c13b0 : (t226 == 0) = true := beq_iff_eq.mpr c13
           have c13b1 : (t226 != 0) = false := bne_eq_false_iff_eq.mpr c13
           clear c13
           replace H := Option.bind_eq_some_iff.mp H
           obtain ⟨t234, A140, H⟩ := H
           replace H : (some (t234 == 11)) = some r := H
           have A14 := Aside0.mk A140
           clear A140
           obtain rfl := Option.some.inj H
           go_enter Try.func24, Try.ntmps24
           go_wp2_with (first | ((with_reducible refine gate_dst (N := 1) rfl ?_); (try (refine gate_guard (by rfl) ?_; dsimp only)); refine Hlp.bx (N := 1) (cs := #[.int .i64 0, .int .i64 0, .string (⟨#[]⟩ : ByteArray), .string (⟨#[]⟩ : ByteArray)]) (t := 23) ?_; intro gb216 hg w15 hbox hb; have BK216 := Aside0.mk (hbox); have GW216 := Aside0.mk ((by rw [hg]; exact (below_size (Hlp.bl HB.out)) : w.heap.size ≤ gb216)); have GE216 := Aside0.mk ((by rw [hg]; exact (below_size (Hlp.bl HB.out)) : w.heap.size ≤ gb216)); replace HB := Aside0.mk (below_step (Hlp.bl HB.out) hb); clear hb hbox hg; have hcz16_0 : w15.cell? ⟨gb216, 0, none⟩ = some (.int .i64 0) := (blk_cell BK216.out 0).trans rfl; have hcz16_1 : w15.cell? ⟨gb216, 1, none⟩ = some (.int .i64 0) := (blk_cell BK216.out 1).trans rfl; have hcz16_2 : w15.cell? ⟨gb216, 2, none⟩ = some (.string (⟨#[]⟩ : ByteArray)) := (blk_cell BK216.out 2).trans rfl; have hcz16_3 : w15.cell? ⟨gb216, 3, none⟩ = some (.string (⟨#[]⟩ : ByteArray)) := (blk_cell BK216.out 3).trans rfl; have hfz16_0 := blk_frozen BK216.out 0; have hfz16_1 := blk_frozen BK216.out 1; have hfz16_2 := blk_frozen BK216.out 2; have hfz16_3 := blk_frozen BK216.out 3) | ((with_reducible refine gate_callee (f := 25) rfl ?_); refine goesL_ (some 10) rfl rfl Try.func25 (by kernel_rfl) rfl #[.agg #[.int .i64 0, .int .i64 1, .string (⟨#[97]⟩ : ByteArray), .string (⟨#[118]⟩ : ByteArray)]] rfl (by (try simp only [List.map_toArray, List.map_cons, List.map_nil]); first | done | rfl | (simp only [List.length_drop, List.length_take]; rfl)) ?_; (with_reducible refine (record_Encode.calls k 0 1 (⟨#[97]⟩ : ByteArray) (⟨#[118]⟩ : ByteArray) t217 t220 _ A1.out).mono ?_); rintro e w17 ⟨v218, rfl, ho0, hb⟩; refine ⟨_, rfl, ?_⟩; have HO219 := Aside0.mk (Kd.R_lower ho0 (below_size (Hlp.bl HB.out))); replace BK216 := Aside0.mk (blk_below (g := gb216) (o := .cells #[.int .i64 0, .int .i64 1, .string (⟨#[97]⟩ : ByteArray), .string (⟨#[118]⟩ : ByteArray)] 23 (0, 0)) (by refine Hlp.bp (blk_put (cs := #[.int .i64 0, .int .i64 1, .string (⟨#[97]⟩ : ByteArray), .string (⟨#[]⟩ : ByteArray)]) ?_ 3 _ rfl); refine Hlp.bp (blk_put (cs := #[.int .i64 0, .int .i64 1, .string (⟨#[]⟩ : ByteArray), .string (⟨#[]⟩ : ByteArray)]) ?_ 2 _ rfl); refine Hlp.bp (blk_put (cs := #[.int .i64 0, .int .i64 0, .string (⟨#[]⟩ : ByteArray), .string (⟨#[]⟩ : ByteArray)]) ?_ 1 _ rfl); refine Hlp.bp (blk_put (cs := #[.int .i64 0, .int .i64 0, .string (⟨#[]⟩ : ByteArray), .string (⟨#[]⟩ : ByteArray)]) ?_ 0 _ rfl); exact Hlp.bp BK216.out) hb); replace HB := Aside0.mk (below_step (Hlp.bl HB.out) hb); (try clear hb); (try clear hb2); (try clear hk); (try clear hi); (try clear ho0); obtain ⟨Ao18, co18, eo18⟩ := Kd.R_slice HO219.out; subst eo18) | ((with_reducible refine gate_callee (f := 29) rfl ?_); refine Hlp.gl (some 15) Try.func29 #[.slice Ao18 t217.length co18, .int .i64 0] ?_; (with_reducible refine (record_Decode.calls k _ _ t217 0 t221 t222 t223 t224 t225 t226 _ ?side1 ?side2 A2.out).mono ?_); (case side1 => exact Hlp.cp (Kd.R_reads' HO219.out).2.2); (case side2 => exact (Kd.R_reads' HO219.out).2.1); rintro e w19 ⟨rfl, hb⟩; refine ⟨_, rfl, ?_⟩; replace HO219 := Aside0.mk (Kd.R_below (Hlp.rp HO219.out) hb); replace BK216 := Aside0.mk (blk_below (g := gb216) (o := .cells #[.int .i64 0, .int .i64 1, .string (⟨#[97]⟩ : ByteArray), .string (⟨#[118]⟩ : ByteArray)] 23 (0, 0)) (Hlp.bp BK216.out) hb); replace HB := Aside0.mk (below_step (Hlp.bl HB.out) hb); (try clear hb); (try clear hb2); (try clear hk); (try clear hi)) | ((with_reducible refine gate_dst (N := 4) rfl ?_); (try (refine gate_guard (by rfl) ?_; dsimp only)); refine Hlp.bx (N := 4) (cs := #[.int .i64 0, .int .i64 0, .string (⟨#[]⟩ : ByteArray), .string (⟨#[]⟩ : ByteArray)]) (t := 23) ?_; intro gb227 hg w20 hbox hb; replace HO219 := Aside0.mk (Kd.R_below (Hlp.rp HO219.out) hb); have BK227 := Aside0.mk (hbox); have GW227 := Aside0.mk ((by rw [hg]; exact (below_size (Hlp.bl HB.out)) : w.heap.size ≤ gb227)); have GE227 := Aside0.mk ((by rw [hg]; exact (below_size (Hlp.bl HB.out)) : w.heap.size ≤ gb227)); replace HB := Aside0.mk (below_step (Hlp.bl HB.out) hb); have NB216_227 := Aside0.mk ((by rw [hg]; exact Nat.ne_of_lt (blk_lt (g := gb216) (o := .cells #[.int .i64 0, .int .i64 1, .string (⟨#[97]⟩ : ByteArray), .string (⟨#[118]⟩ : ByteArray)] 23 (0, 0)) (Hlp.bp BK216.out)) : gb216 ≠ gb227)); have NB227_216 := Aside0.mk ((by rw [hg]; exact Nat.ne_of_gt (blk_lt (g := gb216) (o := .cells #[.int .i64 0, .int .i64 1, .string (⟨#[97]⟩ : ByteArray), .string (⟨#[118]⟩ : ByteArray)] 23 (0, 0)) (Hlp.bp BK216.out)) : gb227 ≠ gb216)); replace BK216 := Aside0.mk (blk_below (g := gb216) (o := .cells #[.int .i64 0, .int .i64 1, .string (⟨#[97]⟩ : ByteArray), .string (⟨#[118]⟩ : ByteArray)] 23 (0, 0)) (Hlp.bp BK216.out) hb); clear hb hbox hg; have hnb21 := NB227_216.out; have hnc21 := NB216_227.out; have hcz22_0 : w20.cell? ⟨gb227, 0, none⟩ = some (.int .i64 0) := (blk_cell BK227.out 0).trans rfl; have hcz22_1 : w20.cell? ⟨gb227, 1, none⟩ = some (.int .i64 0) := (blk_cell BK227.out 1).trans rfl; have hcz22_2 : w20.cell? ⟨gb227, 2, none⟩ = some (.string (⟨#[]⟩ : ByteArray)) := (blk_cell BK227.out 2).trans rfl; have hcz22_3 : w20.cell? ⟨gb227, 3, none⟩ = some (.string (⟨#[]⟩ : ByteArray)) := (blk_cell BK227.out 3).trans rfl; have hfz22_0 := blk_frozen BK227.out 0; have hfz22_1 := blk_frozen BK227.out 1; have hfz22_2 := blk_frozen BK227.out 2; have hfz22_3 := blk_frozen BK227.out 3; have hcz23_0 : w20.cell? ⟨gb216, 0, none⟩ = some (.int .i64 0) := (blk_cell BK216.out 0).trans rfl; have hcz23_1 : w20.cell? ⟨gb216, 1, none⟩ = some (.int .i64 1) := (blk_cell BK216.out 1).trans rfl; have hcz23_2 : w20.cell? ⟨gb216, 2, none⟩ = some (.string (⟨#[97]⟩ : ByteArray)) := (blk_cell BK216.out 2).trans rfl; have hcz23_3 : w20.cell? ⟨gb216, 3, none⟩ = some (.string (⟨#[118]⟩ : ByteArray)) := (blk_cell BK216.out 3).trans rfl; have hfz23_0 := blk_frozen BK216.out 0; have hfz23_1 := blk_frozen BK216.out 1; have hfz23_2 := blk_frozen BK216.out 2; have hfz23_3 := blk_frozen BK216.out 3) | ((with_reducible refine gate_callee (f := 22) rfl ?_); refine goesL_ (some 20) rfl rfl Try.func22 (by kernel_rfl) rfl #[.agg #[.int .i64 0, .int .i64 1, .string (⟨#[97]⟩ : ByteArray), .string (⟨#[118]⟩ : ByteArray)]] rfl (by (try simp only [List.map_toArray, List.map_cons, List.map_nil]); first | done | rfl | (simp only [List.length_drop, List.length_take]; rfl)) ?_; (with_reducible refine (record_Check.calls k 0 1 (⟨#[97]⟩ : ByteArray) (⟨#[118]⟩ : ByteArray) t228 _ A3.out).mono ?_); rintro e w24 ⟨rfl, hb⟩; refine ⟨_, rfl, ?_⟩; replace HO219 := Aside0.mk (Kd.R_below (by (with_reducible repeat (first | apply Kd.R_alloc | apply Kd.R_drewN | apply Kd.R_drew)); exact (Kd.R_mono (Kd.R_far (p := ⟨gb227, 3, none⟩) (Kd.R_far (p := ⟨gb227, 2, none⟩) (Kd.R_far (p := ⟨gb227, 1, none⟩) (Kd.R_far (p := ⟨gb227, 0, none⟩) (Kd.R_types HO219.out BK227.out (by decide)) (fun _ hk => hk.2) (.int .i64 t221)) (fun _ hk => hk.2) (.int .i64 t222)) (fun _ hk => hk.2) (.string t223)) (fun _ hk => hk.2) (.string t224)) (fun _ h_ => h_.1))) hb); replace BK216 := Aside0.mk (blk_below (g := gb216) (o := .cells #[.int .i64 0, .int .i64 1, .string (⟨#[97]⟩ : ByteArray), .string (⟨#[118]⟩ : ByteArray)] 23 (0, 0)) (by refine Hlp.bp (blk_far ?_ NB216_227.out _); refine Hlp.bp (blk_far ?_ NB216_227.out _); refine Hlp.bp (blk_far ?_ NB216_227.out _); refine Hlp.bp (blk_far ?_ NB216_227.out _); exact Hlp.bp BK216.out) hb); replace BK227 := Aside0.mk (blk_below (g := gb227) (o := .cells #[.int .i64 t221, .int .i64 t222, .string t223, .string t224] 23 (0, 0)) (by refine Hlp.bp (blk_put (cs := #[.int .i64 t221, .int .i64 t222, .string t223, .string (⟨#[]⟩ : ByteArray)]) ?_ 3 _ rfl); refine Hlp.bp (blk_put (cs := #[.int .i64 t221, .int .i64 t222, .string (⟨#[]⟩ : ByteArray), .string (⟨#[]⟩ : ByteArray)]) ?_ 2 _ rfl); refine Hlp.bp (blk_put (cs := #[.int .i64 t221, .int .i64 0, .string (⟨#[]⟩ : ByteArray), .string (⟨#[]⟩ : ByteArray)]) ?_ 1 _ rfl); refine Hlp.bp (blk_put (cs := #[.int .i64 0, .int .i64 0, .string (⟨#[]⟩ : ByteArray), .string (⟨#[]⟩ : ByteArray)]) ?_ 0 _ rfl); exact Hlp.bp BK227.out) hb); replace HB := Aside0.mk (below_step (Hlp.bl HB.out) hb); (try clear hb); (try clear hb2); (try clear hk); (try clear hi); have p229 : 0 ≤ (0 : Int) := (by omega); have q229 : 0 < (t217.length : Int) := of_decide_eq_true (by first | (with_reducible assumption) | assumption); obtain ⟨ad229, e229, hx229_0⟩ := Kd.at_int (Kd.R_reads' HO219.out).2.2 0 p229 q229; cases e229; have qi229 : (0 < t217.length) = True := eq_true (by omega); (try rw [show ((0 : Int)).toNat = 0 from rfl] at hx229_0); (try rw [Addr.add_zero'] at hx229_0); replace p229 := eq_true p229; replace q229 := eq_true q229; have q25 : (5 : Int) ≤ ((t217.length : Int) : Int) := of_decide_eq_true (by first | (with_reducible assumption) | assumption); obtain ⟨i025, hi025, _, hsz25, _⟩ := info_parts info5; have hroom25 : t217.length ≤ co18 := (Kd.R_reads' HO219.out).2.1; have hC25 : Kd.C (Kd.int .u8) _ (some ad229) t217.length t217 := (Kd.R_reads' HO219.out).2.2; have hcut25 := cut_from (P := Try.prog) 28 5 .i64 Try.underlying28 hi025 1 hsz25 (some ad229) t217.length co18 5 (by omega) q25; have hr25 := Kd.C_drop (m := (5 : Int).toNat) (c := co18) hC25 (by omega) hroom25; obtain ⟨A25, hA25⟩ : ∃ A1, A1 = (if co18 = (5 : Int).toNat then (some ad229) else ((some ad229) : Option Addr).map (·.add ((5 : Int).toNat * 1))) := ⟨_, rfl⟩; obtain ⟨c25, hc25⟩ : ∃ c1, c1 = co18 - (5 : Int).toNat := ⟨_, rfl⟩; have hy25 : y230.length = t217.length - (5 : Int).toNat := (by rw [Ny230.out, List.length_drop] <;> omega); rw [show (t217).drop (5 : Int).toNat = y230 from Ny230.out.symm] at hr25; replace hr25 : Kd.C (Kd.int .u8) _ A25 y230.length y230 := (by rw [hA25]; exact hr25); rw [← hy25, ← hA25, ← hc25] at hcut25; have HR233 := Aside0.mk hr25; have HC233 := Aside0.mk (show y230.length ≤ c25 from by rw [hy25, hc25]; exact Nat.sub_le_sub_right hroom25 _); clear hr25 hC25 hroom25 hi025 hsz25 hc25; have KY25 := Aside0.mk hy25; have KA25 := Aside0.mk hA25; clear hy25 hA25; have KL25 := Aside0.mk (show 5 ≤ t217.length from by omega); replace q25 := eq_true q25; have hcv26 := Kd.C_string (P := Try.prog) (A := A25) (c := c25) Try.underlying28 Try.underlying5 Try.underlying9 (by repeat (first | (with_reducible exact HR233.out) | (with_reducible refine Kd.C_alloc ?_ _) | (with_reducible refine Kd.C_drewN ?_ _) | (with_reducible refine Kd.C_drew ?_) | exact HR233.out)); have hcz27_0 : w24.cell? ⟨gb227, 0, none⟩ = some (.int .i64 t221) := (blk_cell BK227.out 0).trans rfl; have hcz27_1 : w24.cell? ⟨gb227, 1, none⟩ = some (.int .i64 t222) := (blk_cell BK227.out 1).trans rfl; have hcz27_2 : w24.cell? ⟨gb227, 2, none⟩ = some (.string t223) := (blk_cell BK227.out 2).trans rfl; have hcz27_3 : w24.cell? ⟨gb227, 3, none⟩ = some (.string t224) := (blk_cell BK227.out 3).trans rfl; have hfz27_0 := blk_frozen BK227.out 0; have hfz27_1 := blk_frozen BK227.out 1; have hfz27_2 := blk_frozen BK227.out 2; have hfz27_3 := blk_frozen BK227.out 3; have hcz28_0 : w24.cell? ⟨gb216, 0, none⟩ = some (.int .i64 0) := (blk_cell BK216.out 0).trans rfl; have hcz28_1 : w24.cell? ⟨gb216, 1, none⟩ = some (.int .i64 1) := (blk_cell BK216.out 1).trans rfl; have hcz28_2 : w24.cell? ⟨gb216, 2, none⟩ = some (.string (⟨#[97]⟩ : ByteArray)) := (blk_cell BK216.out 2).trans rfl; have hcz28_3 : w24.cell? ⟨gb216, 3, none⟩ = some (.string (⟨#[118]⟩ : ByteArray)) := (blk_cell BK216.out 3).trans rfl; have hfz28_0 := blk_frozen BK216.out 0; have hfz28_1 := blk_frozen BK216.out 1; have hfz28_2 := blk_frozen BK216.out 2; have hfz28_3 := blk_frozen BK216.out 3) | (go_at_call 28; (with_reducible refine (record_Size.calls k 0 1 (⟨#[97]⟩ : ByteArray) (⟨#[118]⟩ : ByteArray) t234 _ A14.out).mono ?_); rintro e w29 ⟨rfl, hb⟩; replace HO219 := Aside0.mk (Kd.R_below (Hlp.rp HO219.out) hb); replace BK216 := Aside0.mk (blk_below (g := gb216) (o := .cells #[.int .i64 0, .int .i64 1, .string (⟨#[97]⟩ : ByteArray), .string (⟨#[118]⟩ : ByteArray)] 23 (0, 0)) (Hlp.bp BK216.out) hb); replace BK227 := Aside0.mk (blk_below (g := gb227) (o := .cells #[.int .i64 t221, .int .i64 t222, .string t223, .string t224] 23 (0, 0)) (Hlp.bp BK227.out) hb); replace HR233 := Aside0.mk (Kd.C_below (by repeat (first | (with_reducible exact HR233.out) | (with_reducible refine Kd.C_alloc ?_ _) | (with_reducible refine Kd.C_drewN ?_ _) | (with_reducible refine Kd.C_drew ?_) | exact HR233.out)) hb); replace HB := Aside0.mk (below_step (Hlp.bl HB.out) hb); (try clear hb); (try clear hb2); (try clear hk); (try clear hi)))
           go_ret
           exact ⟨by first | rfl | (simp [errW_none, errW_some] <;> rfl) | (simp [*, errW_none, errW_some] <;> rfl), Hlp.bl HB.out⟩
          ·
           rw [if_neg c13] at H
           have c13b0 : (t226 == 0) = false := beq_eq_false_iff_ne.mpr c13
           have c13b1 : (t226 != 0) = true := bne_iff_ne.mpr c13
           exact absurd H (by simp)
         ·
          rw [if_neg c12] at H
          have c12b0 : (t225 == 11) = false := beq_eq_false_iff_ne.mpr c12
          have c12b1 : (t225 != 11) = true := bne_iff_ne.mpr c12
          exact absurd H (by simp)
        ·
         rw [if_neg c11] at H
         have c11b0 : (t221 == 0 && (t222 == 1 && (t223.toList == ([97] : List UInt8) && (t224.toList == ([118] : List UInt8))))) = false := by simpa using c11
         (try (have c11b1 : decide (t221 = 0 && (t222 == 1 && (t223.toList == ([97] : List UInt8) && (t224.toList == ([118] : List UInt8))))) = false := by simpa using c11))
         (try (have c11b2 : (t221 == 0 && (t222 == 1 && (t223.toList == ([97] : List UInt8) && (t224.toList == ([118] : List UInt8))))) = false := by simpa using c11))
         (try (have c11b3 : ¬ (t221 = 0 && (t222 == 1 && (t223.toList == ([97] : List UInt8) && (t224.toList == ([118] : List UInt8))))) := by simpa using c11))
         clear c11
         exact absurd H (by simp)
       ·
        rw [if_neg c10] at H
        have c10b0 : ((strOfNums y230).toList == ([0, 2, 2, 97, 2, 118] : List UInt8)) = false := beq_eq_false_iff_ne.mpr c10
        have c10b1 : ((strOfNums y230).toList != ([0, 2, 2, 97, 2, 118] : List UInt8)) = true := bne_iff_ne.mpr c10
        exact absurd H (by simp)
      ·
       rw [if_neg c9] at H
       exact absurd H (by simp)
     ·
      rw [if_neg c8] at H
      have c8b0 : ((rd t217 0) == 12) = false := beq_eq_false_iff_ne.mpr c8
      have c8b1 : ((rd t217 0) != 12) = true := bne_iff_ne.mpr c8
      exact absurd H (by simp)
    ·
     rw [if_neg c7] at H
     exact absurd H (by simp)
   ·
    rw [if_neg c6] at H
    have c6b0 : ((t217.length : Int) == 11) = false := beq_eq_false_iff_ne.mpr c6
    have c6b1 : ((t217.length : Int) != 11) = true := bne_iff_ne.mpr c6
    exact absurd H (by simp)
  ·
   rw [if_neg c5] at H
   have c5b0 : (t220 == 0) = false := beq_eq_false_iff_ne.mpr c5
   have c5b1 : (t220 != 0) = true := bne_iff_ne.mpr c5
   exact absurd H (by simp)
 ·
  rw [if_neg c4] at H
  have c4b0 : (t228 == 0) = false := beq_eq_false_iff_ne.mpr c4
  have c4b1 : (t228 != 0) = true := bne_iff_ne.mpr c4
  exact absurd H (by simp)

end Go.Proofs.Ytkkelbakadbbhaa.J
