/- Lean functions that compute what the Go functions named below compute; each theorem '.calls': if its Lean function has an answer, the Go function returns it. -/
import Derived.Test.YtkkelbakadbbhaaYx0
import Derived.Test.YtkkelbakadbbhaaH
import Derived.Test.YtkkelbakadbbhaaYpack0
namespace Go.Proofs.Ytkkelbakadbbhaa.J
open Go.RowKit Go.Proofs.YtkkelbakadbbhaaW.PrintWords Go.Proofs.YtkkelbakadbbhaaW.PrintLast Go.Proofs.YtkkelbakadbbhaaW.PrintMore
attribute [local go_sem] max2_int min2_int max_two min_two max_three min_three max_four min_four   -- for this text's walks alone
set_option linter.unusedVariables false
set_option linter.unusedSimpArgs false

/-! ### frame_Next: function 70 -/
def frame_Next.f (k : Nat) (l0 : List Int) (a1 : Int) : Option (List Int × Int × Int) := (pack_Num.f k l0 a1).bind fun bt107 => (if bt107.2.2 = 0 then (if bt107.1 < 0 then (some (([] : List Int), 0, 2)) else (if bt107.1 > 65536 then (some (([] : List Int), 0, 5)) else (if (wrap64 ((l0.length : Int) - bt107.2.1)) < (wrap64 (4 + bt107.1)) then (some (([] : List Int), 0, 3)) else (if 0 ≤ bt107.2.1 then (if bt107.2.1 ≤ (wrap64 (bt107.2.1 + 4)) then (if (wrap64 (bt107.2.1 + 4)) ≤ (l0.length : Int) then ((some (([] : List Int) : List Int)).bind fun y111 => (if 0 ≤ (wrap64 (bt107.2.1 + 4)) then (if (wrap64 (bt107.2.1 + 4)) ≤ (wrap64 ((wrap64 (bt107.2.1 + 4)) + bt107.1)) then (if (wrap64 ((wrap64 (bt107.2.1 + 4)) + bt107.1)) ≤ (l0.length : Int) then (if y111.length + ((l0.take ((wrap64 ((wrap64 (bt107.2.1 + 4)) + bt107.1)) : Int).toNat).drop ((wrap64 (bt107.2.1 + 4)) : Int).toNat).length < 140737488355328 then ((some (y111 ++ ((l0.take ((wrap64 ((wrap64 (bt107.2.1 + 4)) + bt107.1)) : Int).toNat).drop ((wrap64 (bt107.2.1 + 4)) : Int).toNat) : List Int)).bind fun y115 => (if 0 < (((l0.take ((wrap64 (bt107.2.1 + 4)) : Int).toNat).drop (bt107.2.1 : Int).toNat).length : Int) then (if 1 < (((l0.take ((wrap64 (bt107.2.1 + 4)) : Int).toNat).drop (bt107.2.1 : Int).toNat).length : Int) then (if 2 < (((l0.take ((wrap64 (bt107.2.1 + 4)) : Int).toNat).drop (bt107.2.1 : Int).toNat).length : Int) then (if 3 < (((l0.take ((wrap64 (bt107.2.1 + 4)) : Int).toNat).drop (bt107.2.1 : Int).toNat).length : Int) then ((frame_Sum.f k y115).bind fun t122 => (if (Go.bits .or .i64 (Go.bits .or .i64 (Go.bits .or .i64 (wrap64 ((wrap64 (rd ((l0.take ((wrap64 (bt107.2.1 + 4)) : Int).toNat).drop (bt107.2.1 : Int).toNat) 0)) * 16777216)) (wrap64 ((wrap64 (rd ((l0.take ((wrap64 (bt107.2.1 + 4)) : Int).toNat).drop (bt107.2.1 : Int).toNat) 1)) * 65536))) (wrap64 ((wrap64 (rd ((l0.take ((wrap64 (bt107.2.1 + 4)) : Int).toNat).drop (bt107.2.1 : Int).toNat) 2)) * 256))) (wrap64 (rd ((l0.take ((wrap64 (bt107.2.1 + 4)) : Int).toNat).drop (bt107.2.1 : Int).toNat) 3))) = t122 then (some (y115, wrap64 ((wrap64 (bt107.2.1 + 4)) + bt107.1), 0)) else (some (([] : List Int), 0, 4)))) else (none)) else (none)) else (none)) else (none))) else (none)) else (none)) else (none)) else (none))) else (none)) else (none)) else (none))))) else (some (([] : List Int), 0, bt107.2.2)))
theorem frame_Next.mono : ∀ a0 a1 k, LeO (frame_Next.f k a0 a1) (frame_Next.f (k + 1) a0 a1) := by
 intro a0 a1 k
 unfold frame_Next.f
 repeat' first
  | (with_reducible exact frame_Sum.mono _ _)
  | (with_reducible exact pack_Num.mono _ _ _)
  | (with_reducible exact LeO.refl _)
  | (with_reducible exact LeO.none _)
  | (with_reducible refine LeO.ite ?_ ?_)
  | (with_reducible refine LeO.bind ?_ (fun _ => ?_))
  | exact frame_Sum.mono _ _
  | exact pack_Num.mono _ _ _
  | exact LeO.none _
  | refine LeO.ite ?_ ?_
  | refine LeO.bind ?_ (fun _ => ?_)
set_option maxHeartbeats 8000000 in
set_option maxRecDepth 100000 in
theorem frame_Next.calls (k : Nat) (A0 : Option Addr) (c0 : Nat) (l0 : List Int) (a1 : Int) (r1 : List Int) (r2 : Int) (r3 : Int) (w : World) (hr0 : Kd.C (Kd.int .u8) w A0 l0.length l0) (hc0 : l0.length ≤ c0) (h : frame_Next.f k l0 a1 = some (r1, r2, r3)) :
 Calls Try.prog 70 #[.slice A0 l0.length c0, .int .i64 a1] w fun e w' => ∃ v0_ : Value, e = .returned (.tuple #[v0_, .int .i64 r2, .int .i64 r3]) ∧ Kd.R (Kd.int .u8) 5 w' w.heap.size (fun _ => True) v0_ r1 ∧ Below w.heap.size w w' := by
 have HR0 := Aside0.mk hr0
 have HC0 := Aside0.mk hc0
 clear hr0 hc0
 have HB := Aside0.mk (Below.refl w.heap.size w)
 have H : ((pack_Num.f k l0 a1).bind fun bt107 => (if bt107.2.2 = 0 then (if bt107.1 < 0 then (some (([] : List Int), 0, 2)) else (if bt107.1 > 65536 then (some (([] : List Int), 0, 5)) else (if (wrap64 ((l0.length : Int) - bt107.2.1)) < (wrap64 (4 + bt107.1)) then (some (([] : List Int), 0, 3)) else (if 0 ≤ bt107.2.1 then (if bt107.2.1 ≤ (wrap64 (bt107.2.1 + 4)) then (if (wrap64 (bt107.2.1 + 4)) ≤ (l0.length : Int) then ((some (([] : List Int) : List Int)).bind fun y111 => (if 0 ≤ (wrap64 (bt107.2.1 + 4)) then (if (wrap64 (bt107.2.1 + 4)) ≤ (wrap64 ((wrap64 (bt107.2.1 + 4)) + bt107.1)) then (if (wrap64 ((wrap64 (bt107.2.1 + 4)) + bt107.1)) ≤ (l0.length : Int) then (if y111.length + ((l0.take ((wrap64 ((wrap64 (bt107.2.1 + 4)) + bt107.1)) : Int).toNat).drop ((wrap64 (bt107.2.1 + 4)) : Int).toNat).length < 140737488355328 then ((some (y111 ++ ((l0.take ((wrap64 ((wrap64 (bt107.2.1 + 4)) + bt107.1)) : Int).toNat).drop ((wrap64 (bt107.2.1 + 4)) : Int).toNat) : List Int)).bind fun y115 => (if 0 < (((l0.take ((wrap64 (bt107.2.1 + 4)) : Int).toNat).drop (bt107.2.1 : Int).toNat).length : Int) then (if 1 < (((l0.take ((wrap64 (bt107.2.1 + 4)) : Int).toNat).drop (bt107.2.1 : Int).toNat).length : Int) then (if 2 < (((l0.take ((wrap64 (bt107.2.1 + 4)) : Int).toNat).drop (bt107.2.1 : Int).toNat).length : Int) then (if 3 < (((l0.take ((wrap64 (bt107.2.1 + 4)) : Int).toNat).drop (bt107.2.1 : Int).toNat).length : Int) then ((frame_Sum.f k y115).bind fun t122 => (if (Go.bits .or .i64 (Go.bits .or .i64 (Go.bits .or .i64 (wrap64 ((wrap64 (rd ((l0.take ((wrap64 (bt107.2.1 + 4)) : Int).toNat).drop (bt107.2.1 : Int).toNat) 0)) * 16777216)) (wrap64 ((wrap64 (rd ((l0.take ((wrap64 (bt107.2.1 + 4)) : Int).toNat).drop (bt107.2.1 : Int).toNat) 1)) * 65536))) (wrap64 ((wrap64 (rd ((l0.take ((wrap64 (bt107.2.1 + 4)) : Int).toNat).drop (bt107.2.1 : Int).toNat) 2)) * 256))) (wrap64 (rd ((l0.take ((wrap64 (bt107.2.1 + 4)) : Int).toNat).drop (bt107.2.1 : Int).toNat) 3))) = t122 then (some (y115, wrap64 ((wrap64 (bt107.2.1 + 4)) + bt107.1), 0)) else (some (([] : List Int), 0, 4)))) else (none)) else (none)) else (none)) else (none))) else (none)) else (none)) else (none)) else (none))) else (none)) else (none)) else (none))))) else (some (([] : List Int), 0, bt107.2.2)))) = some (r1, r2, r3) := h
 clear h
 replace H := Option.bind_eq_some_iff.mp H
 obtain ⟨⟨t107, t108, t109⟩, A30, H⟩ := H
 replace H : (if t109 = 0 then (if t107 < 0 then (some (([] : List Int), 0, 2)) else (if t107 > 65536 then (some (([] : List Int), 0, 5)) else (if (wrap64 ((l0.length : Int) - t108)) < (wrap64 (4 + t107)) then (some (([] : List Int), 0, 3)) else (if 0 ≤ t108 then (if t108 ≤ (wrap64 (t108 + 4)) then (if (wrap64 (t108 + 4)) ≤ (l0.length : Int) then ((some (([] : List Int) : List Int)).bind fun y111 => (if 0 ≤ (wrap64 (t108 + 4)) then (if (wrap64 (t108 + 4)) ≤ (wrap64 ((wrap64 (t108 + 4)) + t107)) then (if (wrap64 ((wrap64 (t108 + 4)) + t107)) ≤ (l0.length : Int) then (if y111.length + ((l0.take ((wrap64 ((wrap64 (t108 + 4)) + t107)) : Int).toNat).drop ((wrap64 (t108 + 4)) : Int).toNat).length < 140737488355328 then ((some (y111 ++ ((l0.take ((wrap64 ((wrap64 (t108 + 4)) + t107)) : Int).toNat).drop ((wrap64 (t108 + 4)) : Int).toNat) : List Int)).bind fun y115 => (if 0 < (((l0.take ((wrap64 (t108 + 4)) : Int).toNat).drop (t108 : Int).toNat).length : Int) then (if 1 < (((l0.take ((wrap64 (t108 + 4)) : Int).toNat).drop (t108 : Int).toNat).length : Int) then (if 2 < (((l0.take ((wrap64 (t108 + 4)) : Int).toNat).drop (t108 : Int).toNat).length : Int) then (if 3 < (((l0.take ((wrap64 (t108 + 4)) : Int).toNat).drop (t108 : Int).toNat).length : Int) then ((frame_Sum.f k y115).bind fun t122 => (if (Go.bits .or .i64 (Go.bits .or .i64 (Go.bits .or .i64 (wrap64 ((wrap64 (rd ((l0.take ((wrap64 (t108 + 4)) : Int).toNat).drop (t108 : Int).toNat) 0)) * 16777216)) (wrap64 ((wrap64 (rd ((l0.take ((wrap64 (t108 + 4)) : Int).toNat).drop (t108 : Int).toNat) 1)) * 65536))) (wrap64 ((wrap64 (rd ((l0.take ((wrap64 (t108 + 4)) : Int).toNat).drop (t108 : Int).toNat) 2)) * 256))) (wrap64 (rd ((l0.take ((wrap64 (t108 + 4)) : Int).toNat).drop (t108 : Int).toNat) 3))) = t122 then (some (y115, wrap64 ((wrap64 (t108 + 4)) + t107), 0)) else (some (([] : List Int), 0, 4)))) else (none)) else (none)) else (none)) else (none))) else (none)) else (none)) else (none)) else (none))) else (none)) else (none)) else (none))))) else (some (([] : List Int), 0, t109))) = some (r1, r2, r3) := H
 have A3 := Aside0.mk A30
 clear A30
 by_cases c4 : t109 = 0
 ·
  rw [if_pos c4] at H
  have c4b0 : (t109 == 0) = true := beq_iff_eq.mpr c4
  have c4b1 : (t109 != 0) = false := bne_eq_false_iff_eq.mpr c4
  clear c4
  by_cases c5 : t107 < 0
  ·
   rw [if_pos c5] at H
   have c5b0 : decide (t107 < 0) = true := decide_eq_true c5
   clear c5
   simp only [Option.some.injEq, Prod.mk.injEq] at H
   obtain ⟨rfl, rfl, rfl⟩ := H
   go_enter Try.func70, Try.ntmps70
   go_wp2_with (first | (go_at_call 71; (with_reducible refine (pack_Num.calls k _ _ l0 a1 t107 t108 t109 _ ?side1 ?side2 A3.out).mono ?_); (case side1 => exact Hlp.cp HR0.out); (case side2 => exact HC0.out); rintro e w' ⟨rfl, ⟨nd, rfl⟩⟩; (try first | exact ⟨rfl, _, World.drewN_drewN _ _ _⟩ | exact ⟨rfl, _, Eq.trans (World.drewN_drewN _ _ _) (congrArg (World.drewN _) (Nat.add_assoc _ _ _))⟩)))
   repeat (go_quiet (first | (go_at_call 71; (with_reducible refine (pack_Num.calls k _ _ l0 a1 t107 t108 t109 _ ?side1 ?side2 A3.out).mono ?_); (case side1 => exact Hlp.cp HR0.out); (case side2 => exact HC0.out); rintro e w' ⟨rfl, ⟨nd, rfl⟩⟩; (try first | exact ⟨rfl, _, World.drewN_drewN _ _ _⟩ | exact ⟨rfl, _, Eq.trans (World.drewN_drewN _ _ _) (congrArg (World.drewN _) (Nat.add_assoc _ _ _))⟩))); try go_wp2_with (first | (go_at_call 71; (with_reducible refine (pack_Num.calls k _ _ l0 a1 t107 t108 t109 _ ?side1 ?side2 A3.out).mono ?_); (case side1 => exact Hlp.cp HR0.out); (case side2 => exact HC0.out); rintro e w' ⟨rfl, ⟨nd, rfl⟩⟩; (try first | exact ⟨rfl, _, World.drewN_drewN _ _ _⟩ | exact ⟨rfl, _, Eq.trans (World.drewN_drewN _ _ _) (congrArg (World.drewN _) (Nat.add_assoc _ _ _))⟩))))
   go_ret3
   exact ⟨_, by first | rfl | (simp [errW_none, errW_some] <;> rfl) | (simp [*, errW_none, errW_some] <;> rfl), by first | exact Kd.R_nil _ _ _ _ _ | exact Kd.N_nil _ _ _ _ _ | exact Kd.V_nil _ _ _ _ _ | exact Kd.Q_nil _ _ _ _ _ | exact Kd.S_nil _ _ _ _ _, Hlp.bl HB.out⟩
  ·
   rw [if_neg c5] at H
   have c5b0 : decide (t107 < 0) = false := decide_eq_false c5
   clear c5
   by_cases c6 : t107 > 65536
   ·
    rw [if_pos c6] at H
    have c6b0 : decide (65536 < t107) = true := decide_eq_true c6
    clear c6
    simp only [Option.some.injEq, Prod.mk.injEq] at H
    obtain ⟨rfl, rfl, rfl⟩ := H
    go_enter Try.func70, Try.ntmps70
    go_wp2_with (first | (go_at_call 71; (with_reducible refine (pack_Num.calls k _ _ l0 a1 t107 t108 t109 _ ?side1 ?side2 A3.out).mono ?_); (case side1 => exact Hlp.cp HR0.out); (case side2 => exact HC0.out); rintro e w' ⟨rfl, ⟨nd, rfl⟩⟩; (try first | exact ⟨rfl, _, World.drewN_drewN _ _ _⟩ | exact ⟨rfl, _, Eq.trans (World.drewN_drewN _ _ _) (congrArg (World.drewN _) (Nat.add_assoc _ _ _))⟩)))
    repeat (go_quiet (first | (go_at_call 71; (with_reducible refine (pack_Num.calls k _ _ l0 a1 t107 t108 t109 _ ?side1 ?side2 A3.out).mono ?_); (case side1 => exact Hlp.cp HR0.out); (case side2 => exact HC0.out); rintro e w' ⟨rfl, ⟨nd, rfl⟩⟩; (try first | exact ⟨rfl, _, World.drewN_drewN _ _ _⟩ | exact ⟨rfl, _, Eq.trans (World.drewN_drewN _ _ _) (congrArg (World.drewN _) (Nat.add_assoc _ _ _))⟩))); try go_wp2_with (first | (go_at_call 71; (with_reducible refine (pack_Num.calls k _ _ l0 a1 t107 t108 t109 _ ?side1 ?side2 A3.out).mono ?_); (case side1 => exact Hlp.cp HR0.out); (case side2 => exact HC0.out); rintro e w' ⟨rfl, ⟨nd, rfl⟩⟩; (try first | exact ⟨rfl, _, World.drewN_drewN _ _ _⟩ | exact ⟨rfl, _, Eq.trans (World.drewN_drewN _ _ _) (congrArg (World.drewN _) (Nat.add_assoc _ _ _))⟩))))
    go_ret3
    exact ⟨_, by first | rfl | (simp [errW_none, errW_some] <;> rfl) | (simp [*, errW_none, errW_some] <;> rfl), by first | exact Kd.R_nil _ _ _ _ _ | exact Kd.N_nil _ _ _ _ _ | exact Kd.V_nil _ _ _ _ _ | exact Kd.Q_nil _ _ _ _ _ | exact Kd.S_nil _ _ _ _ _, Hlp.bl HB.out⟩
   ·
    rw [if_neg c6] at H
    have c6b0 : decide (65536 < t107) = false := decide_eq_false c6
    clear c6
    by_cases c7 : (wrap64 ((l0.length : Int) - t108)) < (wrap64 (4 + t107))
    ·
     rw [if_pos c7] at H
     have c7b0 : decide ((wrap64 ((l0.length : Int) - t108)) < (wrap64 (4 + t107))) = true := decide_eq_true c7
     clear c7
     simp only [Option.some.injEq, Prod.mk.injEq] at H
     obtain ⟨rfl, rfl, rfl⟩ := H
     go_enter Try.func70, Try.ntmps70
     go_wp2_with (first | (go_at_call 71; (with_reducible refine (pack_Num.calls k _ _ l0 a1 t107 t108 t109 _ ?side1 ?side2 A3.out).mono ?_); (case side1 => exact Hlp.cp HR0.out); (case side2 => exact HC0.out); rintro e w' ⟨rfl, ⟨nd, rfl⟩⟩; (try first | exact ⟨rfl, _, World.drewN_drewN _ _ _⟩ | exact ⟨rfl, _, Eq.trans (World.drewN_drewN _ _ _) (congrArg (World.drewN _) (Nat.add_assoc _ _ _))⟩)))
     repeat (go_quiet (first | (go_at_call 71; (with_reducible refine (pack_Num.calls k _ _ l0 a1 t107 t108 t109 _ ?side1 ?side2 A3.out).mono ?_); (case side1 => exact Hlp.cp HR0.out); (case side2 => exact HC0.out); rintro e w' ⟨rfl, ⟨nd, rfl⟩⟩; (try first | exact ⟨rfl, _, World.drewN_drewN _ _ _⟩ | exact ⟨rfl, _, Eq.trans (World.drewN_drewN _ _ _) (congrArg (World.drewN _) (Nat.add_assoc _ _ _))⟩))); try go_wp2_with (first | (go_at_call 71; (with_reducible refine (pack_Num.calls k _ _ l0 a1 t107 t108 t109 _ ?side1 ?side2 A3.out).mono ?_); (case side1 => exact Hlp.cp HR0.out); (case side2 => exact HC0.out); rintro e w' ⟨rfl, ⟨nd, rfl⟩⟩; (try first | exact ⟨rfl, _, World.drewN_drewN _ _ _⟩ | exact ⟨rfl, _, Eq.trans (World.drewN_drewN _ _ _) (congrArg (World.drewN _) (Nat.add_assoc _ _ _))⟩))))
     go_ret3
     exact ⟨_, by first | rfl | (simp [errW_none, errW_some] <;> rfl) | (simp [*, errW_none, errW_some] <;> rfl), by first | exact Kd.R_nil _ _ _ _ _ | exact Kd.N_nil _ _ _ _ _ | exact Kd.V_nil _ _ _ _ _ | exact Kd.Q_nil _ _ _ _ _ | exact Kd.S_nil _ _ _ _ _, Hlp.bl HB.out⟩
    ·
     rw [if_neg c7] at H
     have c7b0 : decide ((wrap64 ((l0.length : Int) - t108)) < (wrap64 (4 + t107))) = false := decide_eq_false c7
     clear c7
     by_cases c8 : 0 ≤ t108
     ·
      rw [if_pos c8] at H
      have c8b0 := eq_true c8
      have c8b1 : decide (0 ≤ t108) = true := decide_eq_true c8
      clear c8
      by_cases c9 : t108 ≤ (wrap64 (t108 + 4))
      ·
       rw [if_pos c9] at H
       have c9b0 := eq_true c9
       have c9b1 : decide (t108 ≤ (wrap64 (t108 + 4))) = true := decide_eq_true c9
       by_cases c10 : (wrap64 (t108 + 4)) ≤ (l0.length : Int)
       ·
        rw [if_pos c10] at H
        have c10b0 := eq_true c10
        have c10b1 : decide ((wrap64 (t108 + 4)) ≤ (l0.length : Int)) = true := decide_eq_true c10
        obtain ⟨y111, hy111⟩ : ∃ y_ : List Int, y_ = (([] : List Int)) := ⟨_, rfl⟩
        replace H : (if 0 ≤ (wrap64 (t108 + 4)) then (if (wrap64 (t108 + 4)) ≤ (wrap64 ((wrap64 (t108 + 4)) + t107)) then (if (wrap64 ((wrap64 (t108 + 4)) + t107)) ≤ (l0.length : Int) then (if y111.length + ((l0.take ((wrap64 ((wrap64 (t108 + 4)) + t107)) : Int).toNat).drop ((wrap64 (t108 + 4)) : Int).toNat).length < 140737488355328 then ((some (y111 ++ ((l0.take ((wrap64 ((wrap64 (t108 + 4)) + t107)) : Int).toNat).drop ((wrap64 (t108 + 4)) : Int).toNat) : List Int)).bind fun y115 => (if 0 < (((l0.take ((wrap64 (t108 + 4)) : Int).toNat).drop (t108 : Int).toNat).length : Int) then (if 1 < (((l0.take ((wrap64 (t108 + 4)) : Int).toNat).drop (t108 : Int).toNat).length : Int) then (if 2 < (((l0.take ((wrap64 (t108 + 4)) : Int).toNat).drop (t108 : Int).toNat).length : Int) then (if 3 < (((l0.take ((wrap64 (t108 + 4)) : Int).toNat).drop (t108 : Int).toNat).length : Int) then ((frame_Sum.f k y115).bind fun t122 => (if (Go.bits .or .i64 (Go.bits .or .i64 (Go.bits .or .i64 (wrap64 ((wrap64 (rd ((l0.take ((wrap64 (t108 + 4)) : Int).toNat).drop (t108 : Int).toNat) 0)) * 16777216)) (wrap64 ((wrap64 (rd ((l0.take ((wrap64 (t108 + 4)) : Int).toNat).drop (t108 : Int).toNat) 1)) * 65536))) (wrap64 ((wrap64 (rd ((l0.take ((wrap64 (t108 + 4)) : Int).toNat).drop (t108 : Int).toNat) 2)) * 256))) (wrap64 (rd ((l0.take ((wrap64 (t108 + 4)) : Int).toNat).drop (t108 : Int).toNat) 3))) = t122 then (some (y115, wrap64 ((wrap64 (t108 + 4)) + t107), 0)) else (some (([] : List Int), 0, 4)))) else (none)) else (none)) else (none)) else (none))) else (none)) else (none)) else (none)) else (none)) = some (r1, r2, r3) := by first | (rw [hy111]; with_reducible exact H) | (have H2_ := (Option.bind_some _ _).symm.trans H; rw [hy111]; with_reducible exact H2_) | (have H2_ := (Option.bind_some _ _).symm.trans H; with_reducible exact H2_) | with_reducible exact H | (rw [hy111]; exact H) | exact H
        have Ny111 := Aside0.mk hy111
        clear hy111
        obtain ⟨ji11, hji11⟩ : ∃ j_ : Int, (wrap64 (t108 + 4)) = j_ := ⟨_, rfl⟩
        replace H : (if 0 ≤ (ji11) then (if (ji11) ≤ (wrap64 ((ji11) + t107)) then (if (wrap64 ((ji11) + t107)) ≤ (l0.length : Int) then (if y111.length + ((l0.take ((wrap64 ((ji11) + t107)) : Int).toNat).drop ((ji11) : Int).toNat).length < 140737488355328 then ((some (y111 ++ ((l0.take ((wrap64 ((ji11) + t107)) : Int).toNat).drop ((ji11) : Int).toNat) : List Int)).bind fun y115 => (if 0 < (((l0.take ((ji11) : Int).toNat).drop (t108 : Int).toNat).length : Int) then (if 1 < (((l0.take ((ji11) : Int).toNat).drop (t108 : Int).toNat).length : Int) then (if 2 < (((l0.take ((ji11) : Int).toNat).drop (t108 : Int).toNat).length : Int) then (if 3 < (((l0.take ((ji11) : Int).toNat).drop (t108 : Int).toNat).length : Int) then ((frame_Sum.f k y115).bind fun t122 => (if (Go.bits .or .i64 (Go.bits .or .i64 (Go.bits .or .i64 (wrap64 ((wrap64 (rd ((l0.take ((ji11) : Int).toNat).drop (t108 : Int).toNat) 0)) * 16777216)) (wrap64 ((wrap64 (rd ((l0.take ((ji11) : Int).toNat).drop (t108 : Int).toNat) 1)) * 65536))) (wrap64 ((wrap64 (rd ((l0.take ((ji11) : Int).toNat).drop (t108 : Int).toNat) 2)) * 256))) (wrap64 (rd ((l0.take ((ji11) : Int).toNat).drop (t108 : Int).toNat) 3))) = t122 then (some (y115, wrap64 ((ji11) + t107), 0)) else (some (([] : List Int), 0, 4)))) else (none)) else (none)) else (none)) else (none))) else (none)) else (none)) else (none)) else (none)) = some (r1, r2, r3) := by first | (rw [hji11] at H; exact H) | (simp only [hji11] at H ⊢; exact H)
        (try rw [hji11] at c9b0)
        (try rw [hji11] at c9b1)
        (try rw [hji11] at c9)
        (try rw [hji11] at c10b0)
        (try rw [hji11] at c10b1)
        (try rw [hji11] at c10)
        (try rw [hji11] at A3)
        have hji11w : (IntKind.i64.wrap (t108 + 4)) = ji11 := (i64_w _).trans hji11
        by_cases c12 : 0 ≤ (ji11)
        ·
         rw [if_pos c12] at H
         have c12b0 := eq_true c12
         have c12b1 : decide (0 ≤ (ji11)) = true := decide_eq_true c12
         clear c12
         by_cases c13 : (ji11) ≤ (wrap64 ((ji11) + t107))
         ·
          rw [if_pos c13] at H
          have c13b0 := eq_true c13
          have c13b1 : decide ((ji11) ≤ (wrap64 ((ji11) + t107))) = true := decide_eq_true c13
          by_cases c14 : (wrap64 ((ji11) + t107)) ≤ (l0.length : Int)
          ·
           rw [if_pos c14] at H
           have c14b0 := eq_true c14
           have c14b1 : decide ((wrap64 ((ji11) + t107)) ≤ (l0.length : Int)) = true := decide_eq_true c14
           by_cases c15 : y111.length + ((l0.take ((wrap64 ((ji11) + t107)) : Int).toNat).drop ((ji11) : Int).toNat).length < 140737488355328
           ·
            rw [if_pos c15] at H
            have LMc15 := Aside0.mk c15
            clear c15
            obtain ⟨y115, hy115⟩ : ∃ y_ : List Int, y_ = (y111 ++ ((l0.take ((wrap64 ((ji11) + t107)) : Int).toNat).drop ((ji11) : Int).toNat)) := ⟨_, rfl⟩
            replace H : (if 0 < (((l0.take ((ji11) : Int).toNat).drop (t108 : Int).toNat).length : Int) then (if 1 < (((l0.take ((ji11) : Int).toNat).drop (t108 : Int).toNat).length : Int) then (if 2 < (((l0.take ((ji11) : Int).toNat).drop (t108 : Int).toNat).length : Int) then (if 3 < (((l0.take ((ji11) : Int).toNat).drop (t108 : Int).toNat).length : Int) then ((frame_Sum.f k y115).bind fun t122 => (if (Go.bits .or .i64 (Go.bits .or .i64 (Go.bits .or .i64 (wrap64 ((wrap64 (rd ((l0.take ((ji11) : Int).toNat).drop (t108 : Int).toNat) 0)) * 16777216)) (wrap64 ((wrap64 (rd ((l0.take ((ji11) : Int).toNat).drop (t108 : Int).toNat) 1)) * 65536))) (wrap64 ((wrap64 (rd ((l0.take ((ji11) : Int).toNat).drop (t108 : Int).toNat) 2)) * 256))) (wrap64 (rd ((l0.take ((ji11) : Int).toNat).drop (t108 : Int).toNat) 3))) = t122 then (some (y115, wrap64 ((ji11) + t107), 0)) else (some (([] : List Int), 0, 4)))) else (none)) else (none)) else (none)) else (none)) = some (r1, r2, r3) := by first | (rw [hy115]; with_reducible exact H) | (have H2_ := (Option.bind_some _ _).symm.trans H; rw [hy115]; with_reducible exact H2_) | (have H2_ := (Option.bind_some _ _).symm.trans H; with_reducible exact H2_) | with_reducible exact H | (rw [hy115]; exact H) | exact H
            have Ny115 := Aside0.mk hy115
            clear hy115
            by_cases c16 : 0 < (((l0.take ((ji11) : Int).toNat).drop (t108 : Int).toNat).length : Int)
            ·
             rw [if_pos c16] at H
             have c16b0 : decide (0 < (((l0.take ((ji11) : Int).toNat).drop (t108 : Int).toNat).length : Int)) = true := decide_eq_true c16
             have c16b1 : decide (0 < ((l0.take ((ji11) : Int).toNat).drop (t108 : Int).toNat).length) = true := decide_eq_true (by omega)
             clear c16
             by_cases c17 : 1 < (((l0.take ((ji11) : Int).toNat).drop (t108 : Int).toNat).length : Int)
             ·
              rw [if_pos c17] at H
              have c17b0 : decide (1 < (((l0.take ((ji11) : Int).toNat).drop (t108 : Int).toNat).length : Int)) = true := decide_eq_true c17
              have c17b1 : decide (1 < ((l0.take ((ji11) : Int).toNat).drop (t108 : Int).toNat).length) = true := decide_eq_true (by omega)
              clear c17
              by_cases c18 : 2 < (((l0.take ((ji11) : Int).toNat).drop (t108 : Int).toNat).length : Int)
              ·
               rw [if_pos c18] at H
               have c18b0 : decide (2 < (((l0.take ((ji11) : Int).toNat).drop (t108 : Int).toNat).length : Int)) = true := decide_eq_true c18
               have c18b1 : decide (2 < ((l0.take ((ji11) : Int).toNat).drop (t108 : Int).toNat).length) = true := decide_eq_true (by omega)
               clear c18
               by_cases c19 : 3 < (((l0.take ((ji11) : Int).toNat).drop (t108 : Int).toNat).length : Int)
               ·
                rw [if_pos c19] at H
                have c19b0 : decide (3 < (((l0.take ((ji11) : Int).toNat).drop (t108 : Int).toNat).length : Int)) = true := decide_eq_true c19
                have c19b1 : decide (3 < ((l0.take ((ji11) : Int).toNat).drop (t108 : Int).toNat).length) = true := decide_eq_true (by omega)
                clear c19
                replace H := Option.bind_eq_some_iff.mp H
                obtain ⟨t122, A200, H⟩ := H
                replace H : (if (Go.bits .or .i64 (Go.bits .or .i64 (Go.bits .or .i64 (wrap64 ((wrap64 (rd ((l0.take ((ji11) : Int).toNat).drop (t108 : Int).toNat) 0)) * 16777216)) (wrap64 ((wrap64 (rd ((l0.take ((ji11) : Int).toNat).drop (t108 : Int).toNat) 1)) * 65536))) (wrap64 ((wrap64 (rd ((l0.take ((ji11) : Int).toNat).drop (t108 : Int).toNat) 2)) * 256))) (wrap64 (rd ((l0.take ((ji11) : Int).toNat).drop (t108 : Int).toNat) 3))) = t122 then (some (y115, wrap64 ((ji11) + t107), 0)) else (some (([] : List Int), 0, 4))) = some (r1, r2, r3) := H
                have A20 := Aside0.mk A200
                clear A200
                have HMk := Aside0.mk (Hlp.next_n (of_decide_eq_false c5b0) (of_decide_eq_false c6b0)); have HQn := Aside0.mk (Hlp.cut_four l0 t108 (ji11) (of_decide_eq_true c10b1) (of_decide_eq_true c19b0)); have HLn := Aside0.mk (Hlp.next_len l0 (of_decide_eq_true c12b1) (of_decide_eq_true c13b1) (of_decide_eq_true c14b1) HMk.out)
                by_cases c21 : (Go.bits .or .i64 (Go.bits .or .i64 (Go.bits .or .i64 (wrap64 ((wrap64 (rd ((l0.take ((ji11) : Int).toNat).drop (t108 : Int).toNat) 0)) * 16777216)) (wrap64 ((wrap64 (rd ((l0.take ((ji11) : Int).toNat).drop (t108 : Int).toNat) 1)) * 65536))) (wrap64 ((wrap64 (rd ((l0.take ((ji11) : Int).toNat).drop (t108 : Int).toNat) 2)) * 256))) (wrap64 (rd ((l0.take ((ji11) : Int).toNat).drop (t108 : Int).toNat) 3))) = t122
                ·
                 rw [if_pos c21] at H
                 have c21b0 : ((Go.bits .or .i64 (Go.bits .or .i64 (Go.bits .or .i64 (wrap64 ((wrap64 (rd ((l0.take ((ji11) : Int).toNat).drop (t108 : Int).toNat) 0)) * 16777216)) (wrap64 ((wrap64 (rd ((l0.take ((ji11) : Int).toNat).drop (t108 : Int).toNat) 1)) * 65536))) (wrap64 ((wrap64 (rd ((l0.take ((ji11) : Int).toNat).drop (t108 : Int).toNat) 2)) * 256))) (wrap64 (rd ((l0.take ((ji11) : Int).toNat).drop (t108 : Int).toNat) 3))) == t122) = true := beq_iff_eq.mpr c21
                 have c21b1 : ((Go.bits .or .i64 (Go.bits .or .i64 (Go.bits .or .i64 (wrap64 ((wrap64 (rd ((l0.take ((ji11) : Int).toNat).drop (t108 : Int).toNat) 0)) * 16777216)) (wrap64 ((wrap64 (rd ((l0.take ((ji11) : Int).toNat).drop (t108 : Int).toNat) 1)) * 65536))) (wrap64 ((wrap64 (rd ((l0.take ((ji11) : Int).toNat).drop (t108 : Int).toNat) 2)) * 256))) (wrap64 (rd ((l0.take ((ji11) : Int).toNat).drop (t108 : Int).toNat) 3))) != t122) = false := bne_eq_false_iff_eq.mpr c21
                 clear c21
                 simp only [Option.some.injEq, Prod.mk.injEq] at H
                 obtain ⟨rfl, rfl, rfl⟩ := H
                 go_enter Try.func70, Try.ntmps70
                 go_wp2_with (first | (go_at_call 71; (with_reducible refine (pack_Num.calls k _ _ l0 a1 t107 t108 t109 _ ?side1 ?side2 A3.out).mono ?_); (case side1 => exact Hlp.cp HR0.out); (case side2 => exact HC0.out); rintro e w' ⟨rfl, ⟨nd, rfl⟩⟩; (try first | exact ⟨rfl, _, World.drewN_drewN _ _ _⟩ | exact ⟨rfl, _, Eq.trans (World.drewN_drewN _ _ _) (congrArg (World.drewN _) (Nat.add_assoc _ _ _))⟩); obtain ⟨i022, hi022, _, hsz22, _⟩ := info_parts info5; obtain ⟨A22, hcut22, hA22, hC22⟩ := Hlp.print_mid3_of (P := Try.prog) (Value.int .u8) 0 28 5 .i64 .i64 .i64 Try.underlying28 hi022 hsz22 A0 c0 l0 t108 (ji11) (of_decide_eq_true (by first | (with_reducible assumption) | assumption)) (by first | omega | exact of_decide_eq_true (by first | (with_reducible assumption) | assumption)) (of_decide_eq_true (by first | (with_reducible assumption) | assumption)) HC0.out; have HR110 := Aside0.mk (Kd.C_of_reads (h1 := fun _ => rfl) (hA22 _ (Kd.reads_of_C HR0.out))); have HC110 := Aside0.mk hC22; clear hA22 hC22 hi022 hsz22) | ((with_reducible refine gate_dst (N := 45) rfl ?_); refine Kd.R_make (Kd.int .u8) _ 5 ?hg (N := 45) ?hd 28 (.tmp 44) (.tmp 44) ?ho (t107) ?hx ?hy Try.underlying28 (.int .u8 0) 1 info5 rfl (by decide) (by decide) (0 : Int) (ok := fun _ => True) (okp := fun _ => True) ?hz (fun _ hk => hk) trivial ?h0 ?hl (Below.refl _ _) (Nat.le_refl _) ?_; (case hd => rfl); (case hg => rfl); (case ho => rfl); (case hx => first | rfl | (go_simp; done)); (case hy => first | rfl | (go_simp; done)); (case hz => exact Hlp.zero_u8 _ _ _); (case h0 => have := HMk.out; omega); (case hl => have := HMk.out; omega); intro v112 w23 ho24 hb hg_ hnew_; clear hg_ hnew_; have HO113 := Aside0.mk (Kd.R_lower ho24 (below_size (Hlp.bl HB.out))); replace HB := Aside0.mk (below_step (Hlp.bl HB.out) hb); clear hb ho24; obtain ⟨i025, hi025, _, hsz25, _⟩ := info_parts info5; obtain ⟨A25, hcut25, hA25, hC25⟩ := print_mid_of (P := Try.prog) (Value.int .u8) 0 28 5 .i64 .i64 Try.underlying28 hi025 hsz25 A0 c0 l0 (ji11) (wrap64 ((ji11) + t107)) (of_decide_eq_true (by first | (with_reducible assumption) | assumption)) (by first | omega | exact of_decide_eq_true (by first | (with_reducible assumption) | assumption)) (of_decide_eq_true (by first | (with_reducible assumption) | assumption)) HC0.out; have HR114 := Aside0.mk (Kd.C_of_reads (h1 := fun _ => rfl) (hA25 _ (Kd.reads_of_C HR0.out))); have HC114 := Aside0.mk hC25; clear hA25 hC25 hi025 hsz25) | ((with_reducible refine gate_builtin (b := .copy) (xs := #[.tmp 46, .tmp 54]) rfl ?_); refine Kd.R_copy (enc := Value.int .u8) (h1 := fun _ => rfl) (0 : Int) (w0 := w) w.heap.size rfl (.tmp 46) (.tmp 54) 28 28 5 rfl Try.underlying28 ?gi v112 (List.replicate (t107).toNat (0 : Int)) ((l0.take ((wrap64 ((ji11) + t107)) : Int).toNat).drop ((ji11) : Int).toNat) _ _ _ (fun _ => True) rfl rfl ?gO ?aR ?gB ?gb ?_; (case gi => kernel_rfl); (case aR => first | (rw [← show ((l0.take ((wrap64 ((ji11) + t107)) : Int).toNat).drop ((ji11) : Int).toNat).length = ((wrap64 ((ji11) + t107)).toNat - (ji11).toNat) from (by rw [List.length_drop, List.length_take]; have h_ : ((wrap64 ((ji11) + t107)) : Int) ≤ (l0.length : Int) := of_decide_eq_true (by first | (with_reducible assumption) | assumption); omega)]; repeat (first | exact (Kd.C_below HR114.out HB.out) | (with_reducible refine Kd.C_alloc ?_ _) | (with_reducible refine Kd.C_drewN ?_ _) | (with_reducible refine Kd.C_drew ?_))) | (repeat (first | exact (Kd.C_below HR114.out HB.out) | (with_reducible refine Kd.C_alloc ?_ _) | (with_reducible refine Kd.C_drewN ?_ _) | (with_reducible refine Kd.C_drew ?_)))); (case gO => exact HO113.out); (case gB => exact HB.out); (case gb => exact HB.out.size); intro w26 ho hb hg; rw [Hlp.copied _ _ _ (by first | exact HLn.out | (rw [← HLn.out, List.length_drop, List.length_take]; omega)) HLn.out, show ((l0.take ((wrap64 ((ji11) + t107)) : Int).toNat).drop ((ji11) : Int).toNat) = y115 from (by rw [Ny115.out, Ny111.out]; rfl)] at ho; have n0_ := Aside0.mk (hb); have n1_ := Aside0.mk (ho); clear HB; clear HO113; have HB := n0_; have HO117 := n1_; clear n0_ n1_; clear ho hb hg; have qa0_ : (0 < ((ji11) : Int).toNat - (t108 : Int).toNat) = True := eq_true (by have := HQn.out; omega); have qb0_ : ((0 : Int) < ((((ji11) : Int).toNat - (t108 : Int).toNat : Nat) : Int)) = True := eq_true (by have := HQn.out; omega); have qa1_ : (1 < ((ji11) : Int).toNat - (t108 : Int).toNat) = True := eq_true (by have := HQn.out; omega); have qb1_ : ((1 : Int) < ((((ji11) : Int).toNat - (t108 : Int).toNat : Nat) : Int)) = True := eq_true (by have := HQn.out; omega); have qa2_ : (2 < ((ji11) : Int).toNat - (t108 : Int).toNat) = True := eq_true (by have := HQn.out; omega); have qb2_ : ((2 : Int) < ((((ji11) : Int).toNat - (t108 : Int).toNat : Nat) : Int)) = True := eq_true (by have := HQn.out; omega); have qa3_ : (3 < ((ji11) : Int).toNat - (t108 : Int).toNat) = True := eq_true (by have := HQn.out; omega); have qb3_ : ((3 : Int) < ((((ji11) : Int).toNat - (t108 : Int).toNat : Nat) : Int)) = True := eq_true (by have := HQn.out; omega); have p118 : 0 ≤ (0 : Int) := (by omega); have q118 : 0 < (((l0.take ((ji11) : Int).toNat).drop (t108 : Int).toNat).length : Int) := of_decide_eq_true (by first | (with_reducible assumption) | assumption); obtain ⟨ad118, e118, hx118_0⟩ := Kd.at_int HR110.out 0 p118 q118; cases e118; have qi118 : (0 < ((l0.take ((ji11) : Int).toNat).drop (t108 : Int).toNat).length) = True := eq_true (by omega); (try rw [show ((0 : Int)).toNat = 0 from rfl] at hx118_0); (try rw [Addr.add_zero'] at hx118_0); replace hx118_0 := (HB.out.cell (World.block_lt_of_cell? w _ hx118_0)).trans hx118_0; replace p118 := eq_true p118; replace q118 := eq_true q118; have p119 : 0 ≤ (1 : Int) := (by omega); have q119 : 1 < (((l0.take ((ji11) : Int).toNat).drop (t108 : Int).toNat).length : Int) := of_decide_eq_true (by first | (with_reducible assumption) | assumption); obtain ⟨ad119, e119, hx119_0⟩ := Kd.at_int HR110.out 1 p119 q119; obtain rfl : ad118 = ad119 := (by injection e119); (try simp only [show (1 : Int).toNat = 1 from rfl, Nat.reduceMul, Nat.reduceEqDiff, Go.Addr.add, ↓reduceIte] at hx119_0); have qi119 : (1 < ((l0.take ((ji11) : Int).toNat).drop (t108 : Int).toNat).length) = True := eq_true (by omega); (try rw [show ((1 : Int)).toNat = 1 from rfl] at hx119_0); replace hx119_0 := (HB.out.cell (World.block_lt_of_cell? w _ hx119_0)).trans hx119_0; replace p119 := eq_true p119; replace q119 := eq_true q119; have p120 : 0 ≤ (2 : Int) := (by omega); have q120 : 2 < (((l0.take ((ji11) : Int).toNat).drop (t108 : Int).toNat).length : Int) := of_decide_eq_true (by first | (with_reducible assumption) | assumption); obtain ⟨ad120, e120, hx120_0⟩ := Kd.at_int HR110.out 2 p120 q120; obtain rfl : ad118 = ad120 := (by injection e120); (try simp only [show (2 : Int).toNat = 2 from rfl, Nat.reduceMul, Nat.reduceEqDiff, Go.Addr.add, ↓reduceIte] at hx120_0); have qi120 : (2 < ((l0.take ((ji11) : Int).toNat).drop (t108 : Int).toNat).length) = True := eq_true (by omega); (try rw [show ((2 : Int)).toNat = 2 from rfl] at hx120_0); replace hx120_0 := (HB.out.cell (World.block_lt_of_cell? w _ hx120_0)).trans hx120_0; replace p120 := eq_true p120; replace q120 := eq_true q120; have p121 : 0 ≤ (3 : Int) := (by omega); have q121 : 3 < (((l0.take ((ji11) : Int).toNat).drop (t108 : Int).toNat).length : Int) := of_decide_eq_true (by first | (with_reducible assumption) | assumption); obtain ⟨ad121, e121, hx121_0⟩ := Kd.at_int HR110.out 3 p121 q121; obtain rfl : ad118 = ad121 := (by injection e121); (try simp only [show (3 : Int).toNat = 3 from rfl, Nat.reduceMul, Nat.reduceEqDiff, Go.Addr.add, ↓reduceIte] at hx121_0); have qi121 : (3 < ((l0.take ((ji11) : Int).toNat).drop (t108 : Int).toNat).length) = True := eq_true (by omega); (try rw [show ((3 : Int)).toNat = 3 from rfl] at hx121_0); replace hx121_0 := (HB.out.cell (World.block_lt_of_cell? w _ hx121_0)).trans hx121_0; replace p121 := eq_true p121; replace q121 := eq_true q121; obtain ⟨Ao27, co27, eo27⟩ := Kd.R_slice HO117.out; subst eo27) | (go_at_call 81; (with_reducible refine (frame_Sum.calls k _ _ y115 t122 _ ?side1 ?side2 A20.out).mono ?_); (case side1 => exact Hlp.cp (Kd.R_reads' HO117.out).2.2); (case side2 => exact (Kd.R_reads' HO117.out).2.1); rintro e w' ⟨rfl, ⟨nd, rfl⟩⟩; (try first | exact ⟨rfl, _, World.drewN_drewN _ _ _⟩ | exact ⟨rfl, _, Eq.trans (World.drewN_drewN _ _ _) (congrArg (World.drewN _) (Nat.add_assoc _ _ _))⟩)))
                 repeat (go_quiet (first | (go_at_call 71; (with_reducible refine (pack_Num.calls k _ _ l0 a1 t107 t108 t109 _ ?side1 ?side2 A3.out).mono ?_); (case side1 => exact Hlp.cp HR0.out); (case side2 => exact HC0.out); rintro e w' ⟨rfl, ⟨nd, rfl⟩⟩; (try first | exact ⟨rfl, _, World.drewN_drewN _ _ _⟩ | exact ⟨rfl, _, Eq.trans (World.drewN_drewN _ _ _) (congrArg (World.drewN _) (Nat.add_assoc _ _ _))⟩); obtain ⟨i022, hi022, _, hsz22, _⟩ := info_parts info5; obtain ⟨A22, hcut22, hA22, hC22⟩ := Hlp.print_mid3_of (P := Try.prog) (Value.int .u8) 0 28 5 .i64 .i64 .i64 Try.underlying28 hi022 hsz22 A0 c0 l0 t108 (ji11) (of_decide_eq_true (by first | (with_reducible assumption) | assumption)) (by first | omega | exact of_decide_eq_true (by first | (with_reducible assumption) | assumption)) (of_decide_eq_true (by first | (with_reducible assumption) | assumption)) HC0.out; have HR110 := Aside0.mk (Kd.C_of_reads (h1 := fun _ => rfl) (hA22 _ (Kd.reads_of_C HR0.out))); have HC110 := Aside0.mk hC22; clear hA22 hC22 hi022 hsz22) | ((with_reducible refine gate_dst (N := 45) rfl ?_); refine Kd.R_make (Kd.int .u8) _ 5 ?hg (N := 45) ?hd 28 (.tmp 44) (.tmp 44) ?ho (t107) ?hx ?hy Try.underlying28 (.int .u8 0) 1 info5 rfl (by decide) (by decide) (0 : Int) (ok := fun _ => True) (okp := fun _ => True) ?hz (fun _ hk => hk) trivial ?h0 ?hl (Below.refl _ _) (Nat.le_refl _) ?_; (case hd => rfl); (case hg => rfl); (case ho => rfl); (case hx => first | rfl | (go_simp; done)); (case hy => first | rfl | (go_simp; done)); (case hz => exact Hlp.zero_u8 _ _ _); (case h0 => have := HMk.out; omega); (case hl => have := HMk.out; omega); intro v112 w23 ho24 hb hg_ hnew_; clear hg_ hnew_; have HO113 := Aside0.mk (Kd.R_lower ho24 (below_size (Hlp.bl HB.out))); replace HB := Aside0.mk (below_step (Hlp.bl HB.out) hb); clear hb ho24; obtain ⟨i025, hi025, _, hsz25, _⟩ := info_parts info5; obtain ⟨A25, hcut25, hA25, hC25⟩ := print_mid_of (P := Try.prog) (Value.int .u8) 0 28 5 .i64 .i64 Try.underlying28 hi025 hsz25 A0 c0 l0 (ji11) (wrap64 ((ji11) + t107)) (of_decide_eq_true (by first | (with_reducible assumption) | assumption)) (by first | omega | exact of_decide_eq_true (by first | (with_reducible assumption) | assumption)) (of_decide_eq_true (by first | (with_reducible assumption) | assumption)) HC0.out; have HR114 := Aside0.mk (Kd.C_of_reads (h1 := fun _ => rfl) (hA25 _ (Kd.reads_of_C HR0.out))); have HC114 := Aside0.mk hC25; clear hA25 hC25 hi025 hsz25) | ((with_reducible refine gate_builtin (b := .copy) (xs := #[.tmp 46, .tmp 54]) rfl ?_); refine Kd.R_copy (enc := Value.int .u8) (h1 := fun _ => rfl) (0 : Int) (w0 := w) w.heap.size rfl (.tmp 46) (.tmp 54) 28 28 5 rfl Try.underlying28 ?gi v112 (List.replicate (t107).toNat (0 : Int)) ((l0.take ((wrap64 ((ji11) + t107)) : Int).toNat).drop ((ji11) : Int).toNat) _ _ _ (fun _ => True) rfl rfl ?gO ?aR ?gB ?gb ?_; (case gi => kernel_rfl); (case aR => first | (rw [← show ((l0.take ((wrap64 ((ji11) + t107)) : Int).toNat).drop ((ji11) : Int).toNat).length = ((wrap64 ((ji11) + t107)).toNat - (ji11).toNat) from (by rw [List.length_drop, List.length_take]; have h_ : ((wrap64 ((ji11) + t107)) : Int) ≤ (l0.length : Int) := of_decide_eq_true (by first | (with_reducible assumption) | assumption); omega)]; repeat (first | exact (Kd.C_below HR114.out HB.out) | (with_reducible refine Kd.C_alloc ?_ _) | (with_reducible refine Kd.C_drewN ?_ _) | (with_reducible refine Kd.C_drew ?_))) | (repeat (first | exact (Kd.C_below HR114.out HB.out) | (with_reducible refine Kd.C_alloc ?_ _) | (with_reducible refine Kd.C_drewN ?_ _) | (with_reducible refine Kd.C_drew ?_)))); (case gO => exact HO113.out); (case gB => exact HB.out); (case gb => exact HB.out.size); intro w26 ho hb hg; rw [Hlp.copied _ _ _ (by first | exact HLn.out | (rw [← HLn.out, List.length_drop, List.length_take]; omega)) HLn.out, show ((l0.take ((wrap64 ((ji11) + t107)) : Int).toNat).drop ((ji11) : Int).toNat) = y115 from (by rw [Ny115.out, Ny111.out]; rfl)] at ho; have n0_ := Aside0.mk (hb); have n1_ := Aside0.mk (ho); clear HB; clear HO113; have HB := n0_; have HO117 := n1_; clear n0_ n1_; clear ho hb hg; have qa0_ : (0 < ((ji11) : Int).toNat - (t108 : Int).toNat) = True := eq_true (by have := HQn.out; omega); have qb0_ : ((0 : Int) < ((((ji11) : Int).toNat - (t108 : Int).toNat : Nat) : Int)) = True := eq_true (by have := HQn.out; omega); have qa1_ : (1 < ((ji11) : Int).toNat - (t108 : Int).toNat) = True := eq_true (by have := HQn.out; omega); have qb1_ : ((1 : Int) < ((((ji11) : Int).toNat - (t108 : Int).toNat : Nat) : Int)) = True := eq_true (by have := HQn.out; omega); have qa2_ : (2 < ((ji11) : Int).toNat - (t108 : Int).toNat) = True := eq_true (by have := HQn.out; omega); have qb2_ : ((2 : Int) < ((((ji11) : Int).toNat - (t108 : Int).toNat : Nat) : Int)) = True := eq_true (by have := HQn.out; omega); have qa3_ : (3 < ((ji11) : Int).toNat - (t108 : Int).toNat) = True := eq_true (by have := HQn.out; omega); have qb3_ : ((3 : Int) < ((((ji11) : Int).toNat - (t108 : Int).toNat : Nat) : Int)) = True := eq_true (by have := HQn.out; omega); have p118 : 0 ≤ (0 : Int) := (by omega); have q118 : 0 < (((l0.take ((ji11) : Int).toNat).drop (t108 : Int).toNat).length : Int) := of_decide_eq_true (by first | (with_reducible assumption) | assumption); obtain ⟨ad118, e118, hx118_0⟩ := Kd.at_int HR110.out 0 p118 q118; cases e118; have qi118 : (0 < ((l0.take ((ji11) : Int).toNat).drop (t108 : Int).toNat).length) = True := eq_true (by omega); (try rw [show ((0 : Int)).toNat = 0 from rfl] at hx118_0); (try rw [Addr.add_zero'] at hx118_0); replace hx118_0 := (HB.out.cell (World.block_lt_of_cell? w _ hx118_0)).trans hx118_0; replace p118 := eq_true p118; replace q118 := eq_true q118; have p119 : 0 ≤ (1 : Int) := (by omega); have q119 : 1 < (((l0.take ((ji11) : Int).toNat).drop (t108 : Int).toNat).length : Int) := of_decide_eq_true (by first | (with_reducible assumption) | assumption); obtain ⟨ad119, e119, hx119_0⟩ := Kd.at_int HR110.out 1 p119 q119; obtain rfl : ad118 = ad119 := (by injection e119); (try simp only [show (1 : Int).toNat = 1 from rfl, Nat.reduceMul, Nat.reduceEqDiff, Go.Addr.add, ↓reduceIte] at hx119_0); have qi119 : (1 < ((l0.take ((ji11) : Int).toNat).drop (t108 : Int).toNat).length) = True := eq_true (by omega); (try rw [show ((1 : Int)).toNat = 1 from rfl] at hx119_0); replace hx119_0 := (HB.out.cell (World.block_lt_of_cell? w _ hx119_0)).trans hx119_0; replace p119 := eq_true p119; replace q119 := eq_true q119; have p120 : 0 ≤ (2 : Int) := (by omega); have q120 : 2 < (((l0.take ((ji11) : Int).toNat).drop (t108 : Int).toNat).length : Int) := of_decide_eq_true (by first | (with_reducible assumption) | assumption); obtain ⟨ad120, e120, hx120_0⟩ := Kd.at_int HR110.out 2 p120 q120; obtain rfl : ad118 = ad120 := (by injection e120); (try simp only [show (2 : Int).toNat = 2 from rfl, Nat.reduceMul, Nat.reduceEqDiff, Go.Addr.add, ↓reduceIte] at hx120_0); have qi120 : (2 < ((l0.take ((ji11) : Int).toNat).drop (t108 : Int).toNat).length) = True := eq_true (by omega); (try rw [show ((2 : Int)).toNat = 2 from rfl] at hx120_0); replace hx120_0 := (HB.out.cell (World.block_lt_of_cell? w _ hx120_0)).trans hx120_0; replace p120 := eq_true p120; replace q120 := eq_true q120; have p121 : 0 ≤ (3 : Int) := (by omega); have q121 : 3 < (((l0.take ((ji11) : Int).toNat).drop (t108 : Int).toNat).length : Int) := of_decide_eq_true (by first | (with_reducible assumption) | assumption); obtain ⟨ad121, e121, hx121_0⟩ := Kd.at_int HR110.out 3 p121 q121; obtain rfl : ad118 = ad121 := (by injection e121); (try simp only [show (3 : Int).toNat = 3 from rfl, Nat.reduceMul, Nat.reduceEqDiff, Go.Addr.add, ↓reduceIte] at hx121_0); have qi121 : (3 < ((l0.take ((ji11) : Int).toNat).drop (t108 : Int).toNat).length) = True := eq_true (by omega); (try rw [show ((3 : Int)).toNat = 3 from rfl] at hx121_0); replace hx121_0 := (HB.out.cell (World.block_lt_of_cell? w _ hx121_0)).trans hx121_0; replace p121 := eq_true p121; replace q121 := eq_true q121; obtain ⟨Ao27, co27, eo27⟩ := Kd.R_slice HO117.out; subst eo27) | (go_at_call 81; (with_reducible refine (frame_Sum.calls k _ _ y115 t122 _ ?side1 ?side2 A20.out).mono ?_); (case side1 => exact Hlp.cp (Kd.R_reads' HO117.out).2.2); (case side2 => exact (Kd.R_reads' HO117.out).2.1); rintro e w' ⟨rfl, ⟨nd, rfl⟩⟩; (try first | exact ⟨rfl, _, World.drewN_drewN _ _ _⟩ | exact ⟨rfl, _, Eq.trans (World.drewN_drewN _ _ _) (congrArg (World.drewN _) (Nat.add_assoc _ _ _))⟩))); try go_wp2_with (first | (go_at_call 71; (with_reducible refine (pack_Num.calls k _ _ l0 a1 t107 t108 t109 _ ?side1 ?side2 A3.out).mono ?_); (case side1 => exact Hlp.cp HR0.out); (case side2 => exact HC0.out); rintro e w' ⟨rfl, ⟨nd, rfl⟩⟩; (try first | exact ⟨rfl, _, World.drewN_drewN _ _ _⟩ | exact ⟨rfl, _, Eq.trans (World.drewN_drewN _ _ _) (congrArg (World.drewN _) (Nat.add_assoc _ _ _))⟩); obtain ⟨i022, hi022, _, hsz22, _⟩ := info_parts info5; obtain ⟨A22, hcut22, hA22, hC22⟩ := Hlp.print_mid3_of (P := Try.prog) (Value.int .u8) 0 28 5 .i64 .i64 .i64 Try.underlying28 hi022 hsz22 A0 c0 l0 t108 (ji11) (of_decide_eq_true (by first | (with_reducible assumption) | assumption)) (by first | omega | exact of_decide_eq_true (by first | (with_reducible assumption) | assumption)) (of_decide_eq_true (by first | (with_reducible assumption) | assumption)) HC0.out; have HR110 := Aside0.mk (Kd.C_of_reads (h1 := fun _ => rfl) (hA22 _ (Kd.reads_of_C HR0.out))); have HC110 := Aside0.mk hC22; clear hA22 hC22 hi022 hsz22) | ((with_reducible refine gate_dst (N := 45) rfl ?_); refine Kd.R_make (Kd.int .u8) _ 5 ?hg (N := 45) ?hd 28 (.tmp 44) (.tmp 44) ?ho (t107) ?hx ?hy Try.underlying28 (.int .u8 0) 1 info5 rfl (by decide) (by decide) (0 : Int) (ok := fun _ => True) (okp := fun _ => True) ?hz (fun _ hk => hk) trivial ?h0 ?hl (Below.refl _ _) (Nat.le_refl _) ?_; (case hd => rfl); (case hg => rfl); (case ho => rfl); (case hx => first | rfl | (go_simp; done)); (case hy => first | rfl | (go_simp; done)); (case hz => exact Hlp.zero_u8 _ _ _); (case h0 => have := HMk.out; omega); (case hl => have := HMk.out; omega); intro v112 w23 ho24 hb hg_ hnew_; clear hg_ hnew_; have HO113 := Aside0.mk (Kd.R_lower ho24 (below_size (Hlp.bl HB.out))); replace HB := Aside0.mk (below_step (Hlp.bl HB.out) hb); clear hb ho24; obtain ⟨i025, hi025, _, hsz25, _⟩ := info_parts info5; obtain ⟨A25, hcut25, hA25, hC25⟩ := print_mid_of (P := Try.prog) (Value.int .u8) 0 28 5 .i64 .i64 Try.underlying28 hi025 hsz25 A0 c0 l0 (ji11) (wrap64 ((ji11) + t107)) (of_decide_eq_true (by first | (with_reducible assumption) | assumption)) (by first | omega | exact of_decide_eq_true (by first | (with_reducible assumption) | assumption)) (of_decide_eq_true (by first | (with_reducible assumption) | assumption)) HC0.out; have HR114 := Aside0.mk (Kd.C_of_reads (h1 := fun _ => rfl) (hA25 _ (Kd.reads_of_C HR0.out))); have HC114 := Aside0.mk hC25; clear hA25 hC25 hi025 hsz25) | ((with_reducible refine gate_builtin (b := .copy) (xs := #[.tmp 46, .tmp 54]) rfl ?_); refine Kd.R_copy (enc := Value.int .u8) (h1 := fun _ => rfl) (0 : Int) (w0 := w) w.heap.size rfl (.tmp 46) (.tmp 54) 28 28 5 rfl Try.underlying28 ?gi v112 (List.replicate (t107).toNat (0 : Int)) ((l0.take ((wrap64 ((ji11) + t107)) : Int).toNat).drop ((ji11) : Int).toNat) _ _ _ (fun _ => True) rfl rfl ?gO ?aR ?gB ?gb ?_; (case gi => kernel_rfl); (case aR => first | (rw [← show ((l0.take ((wrap64 ((ji11) + t107)) : Int).toNat).drop ((ji11) : Int).toNat).length = ((wrap64 ((ji11) + t107)).toNat - (ji11).toNat) from (by rw [List.length_drop, List.length_take]; have h_ : ((wrap64 ((ji11) + t107)) : Int) ≤ (l0.length : Int) := of_decide_eq_true (by first | (with_reducible assumption) | assumption); omega)]; repeat (first | exact (Kd.C_below HR114.out HB.out) | (with_reducible refine Kd.C_alloc ?_ _) | (with_reducible refine Kd.C_drewN ?_ _) | (with_reducible refine Kd.C_drew ?_))) | (repeat (first | exact (Kd.C_below HR114.out HB.out) | (with_reducible refine Kd.C_alloc ?_ _) | (with_reducible refine Kd.C_drewN ?_ _) | (with_reducible refine Kd.C_drew ?_)))); (case gO => exact HO113.out); (case gB => exact HB.out); (case gb => exact HB.out.size); intro w26 ho hb hg; rw [Hlp.copied _ _ _ (by first | exact HLn.out | (rw [← HLn.out, List.length_drop, List.length_take]; omega)) HLn.out, show ((l0.take ((wrap64 ((ji11) + t107)) : Int).toNat).drop ((ji11) : Int).toNat) = y115 from (by rw [Ny115.out, Ny111.out]; rfl)] at ho; have n0_ := Aside0.mk (hb); have n1_ := Aside0.mk (ho); clear HB; clear HO113; have HB := n0_; have HO117 := n1_; clear n0_ n1_; clear ho hb hg; have qa0_ : (0 < ((ji11) : Int).toNat - (t108 : Int).toNat) = True := eq_true (by have := HQn.out; omega); have qb0_ : ((0 : Int) < ((((ji11) : Int).toNat - (t108 : Int).toNat : Nat) : Int)) = True := eq_true (by have := HQn.out; omega); have qa1_ : (1 < ((ji11) : Int).toNat - (t108 : Int).toNat) = True := eq_true (by have := HQn.out; omega); have qb1_ : ((1 : Int) < ((((ji11) : Int).toNat - (t108 : Int).toNat : Nat) : Int)) = True := eq_true (by have := HQn.out; omega); have qa2_ : (2 < ((ji11) : Int).toNat - (t108 : Int).toNat) = True := eq_true (by have := HQn.out; omega); have qb2_ : ((2 : Int) < ((((ji11) : Int).toNat - (t108 : Int).toNat : Nat) : Int)) = True := eq_true (by have := HQn.out; omega); have qa3_ : (3 < ((ji11) : Int).toNat - (t108 : Int).toNat) = True := eq_true (by have := HQn.out; omega); have qb3_ : ((3 : Int) < ((((ji11) : Int).toNat - (t108 : Int).toNat : Nat) : Int)) = True := eq_true (by have := HQn.out; omega); have p118 : 0 ≤ (0 : Int) := (by omega); have q118 : 0 < (((l0.take ((ji11) : Int).toNat).drop (t108 : Int).toNat).length : Int) := of_decide_eq_true (by first | (with_reducible assumption) | assumption); obtain ⟨ad118, e118, hx118_0⟩ := Kd.at_int HR110.out 0 p118 q118; cases e118; have qi118 : (0 < ((l0.take ((ji11) : Int).toNat).drop (t108 : Int).toNat).length) = True := eq_true (by omega); (try rw [show ((0 : Int)).toNat = 0 from rfl] at hx118_0); (try rw [Addr.add_zero'] at hx118_0); replace hx118_0 := (HB.out.cell (World.block_lt_of_cell? w _ hx118_0)).trans hx118_0; replace p118 := eq_true p118; replace q118 := eq_true q118; have p119 : 0 ≤ (1 : Int) := (by omega); have q119 : 1 < (((l0.take ((ji11) : Int).toNat).drop (t108 : Int).toNat).length : Int) := of_decide_eq_true (by first | (with_reducible assumption) | assumption); obtain ⟨ad119, e119, hx119_0⟩ := Kd.at_int HR110.out 1 p119 q119; obtain rfl : ad118 = ad119 := (by injection e119); (try simp only [show (1 : Int).toNat = 1 from rfl, Nat.reduceMul, Nat.reduceEqDiff, Go.Addr.add, ↓reduceIte] at hx119_0); have qi119 : (1 < ((l0.take ((ji11) : Int).toNat).drop (t108 : Int).toNat).length) = True := eq_true (by omega); (try rw [show ((1 : Int)).toNat = 1 from rfl] at hx119_0); replace hx119_0 := (HB.out.cell (World.block_lt_of_cell? w _ hx119_0)).trans hx119_0; replace p119 := eq_true p119; replace q119 := eq_true q119; have p120 : 0 ≤ (2 : Int) := (by omega); have q120 : 2 < (((l0.take ((ji11) : Int).toNat).drop (t108 : Int).toNat).length : Int) := of_decide_eq_true (by first | (with_reducible assumption) | assumption); obtain ⟨ad120, e120, hx120_0⟩ := Kd.at_int HR110.out 2 p120 q120; obtain rfl : ad118 = ad120 := (by injection e120); (try simp only [show (2 : Int).toNat = 2 from rfl, Nat.reduceMul, Nat.reduceEqDiff, Go.Addr.add, ↓reduceIte] at hx120_0); have qi120 : (2 < ((l0.take ((ji11) : Int).toNat).drop (t108 : Int).toNat).length) = True := eq_true (by omega); (try rw [show ((2 : Int)).toNat = 2 from rfl] at hx120_0); replace hx120_0 := (HB.out.cell (World.block_lt_of_cell? w _ hx120_0)).trans hx120_0; replace p120 := eq_true p120; replace q120 := eq_true q120; have p121 : 0 ≤ (3 : Int) := (by omega); have q121 : 3 < (((l0.take ((ji11) : Int).toNat).drop (t108 : Int).toNat).length : Int) := of_decide_eq_true (by first | (with_reducible assumption) | assumption); obtain ⟨ad121, e121, hx121_0⟩ := Kd.at_int HR110.out 3 p121 q121; obtain rfl : ad118 = ad121 := (by injection e121); (try simp only [show (3 : Int).toNat = 3 from rfl, Nat.reduceMul, Nat.reduceEqDiff, Go.Addr.add, ↓reduceIte] at hx121_0); have qi121 : (3 < ((l0.take ((ji11) : Int).toNat).drop (t108 : Int).toNat).length) = True := eq_true (by omega); (try rw [show ((3 : Int)).toNat = 3 from rfl] at hx121_0); replace hx121_0 := (HB.out.cell (World.block_lt_of_cell? w _ hx121_0)).trans hx121_0; replace p121 := eq_true p121; replace q121 := eq_true q121; obtain ⟨Ao27, co27, eo27⟩ := Kd.R_slice HO117.out; subst eo27) | (go_at_call 81; (with_reducible refine (frame_Sum.calls k _ _ y115 t122 _ ?side1 ?side2 A20.out).mono ?_); (case side1 => exact Hlp.cp (Kd.R_reads' HO117.out).2.2); (case side2 => exact (Kd.R_reads' HO117.out).2.1); rintro e w' ⟨rfl, ⟨nd, rfl⟩⟩; (try first | exact ⟨rfl, _, World.drewN_drewN _ _ _⟩ | exact ⟨rfl, _, Eq.trans (World.drewN_drewN _ _ _) (congrArg (World.drewN _) (Nat.add_assoc _ _ _))⟩))))
                 go_ret3
                 exact ⟨_, by first | rfl | (simp [errW_none, errW_some] <;> rfl) | (simp only [← hji11]; first | rfl | (simp [errW_none, errW_some] <;> rfl)) | (simp [*, errW_none, errW_some] <;> rfl), by (with_reducible repeat (first | apply Kd.R_alloc | apply Kd.R_drewN | apply Kd.R_drew)); exact HO117.out, Hlp.bl HB.out⟩
                ·
                 rw [if_neg c21] at H
                 have c21b0 : ((Go.bits .or .i64 (Go.bits .or .i64 (Go.bits .or .i64 (wrap64 ((wrap64 (rd ((l0.take ((ji11) : Int).toNat).drop (t108 : Int).toNat) 0)) * 16777216)) (wrap64 ((wrap64 (rd ((l0.take ((ji11) : Int).toNat).drop (t108 : Int).toNat) 1)) * 65536))) (wrap64 ((wrap64 (rd ((l0.take ((ji11) : Int).toNat).drop (t108 : Int).toNat) 2)) * 256))) (wrap64 (rd ((l0.take ((ji11) : Int).toNat).drop (t108 : Int).toNat) 3))) == t122) = false := beq_eq_false_iff_ne.mpr c21
                 have c21b1 : ((Go.bits .or .i64 (Go.bits .or .i64 (Go.bits .or .i64 (wrap64 ((wrap64 (rd ((l0.take ((ji11) : Int).toNat).drop (t108 : Int).toNat) 0)) * 16777216)) (wrap64 ((wrap64 (rd ((l0.take ((ji11) : Int).toNat).drop (t108 : Int).toNat) 1)) * 65536))) (wrap64 ((wrap64 (rd ((l0.take ((ji11) : Int).toNat).drop (t108 : Int).toNat) 2)) * 256))) (wrap64 (rd ((l0.take ((ji11) : Int).toNat).drop (t108 : Int).toNat) 3))) != t122) = true := bne_iff_ne.mpr c21
                 simp only [Option.some.injEq, Prod.mk.injEq] at H
                 obtain ⟨rfl, rfl, rfl⟩ := H
                 go_enter Try.func70, Try.ntmps70
                 go_wp2_with (first | (go_at_call 71; (with_reducible refine (pack_Num.calls k _ _ l0 a1 t107 t108 t109 _ ?side1 ?side2 A3.out).mono ?_); (case side1 => exact Hlp.cp HR0.out); (case side2 => exact HC0.out); rintro e w' ⟨rfl, ⟨nd, rfl⟩⟩; (try first | exact ⟨rfl, _, World.drewN_drewN _ _ _⟩ | exact ⟨rfl, _, Eq.trans (World.drewN_drewN _ _ _) (congrArg (World.drewN _) (Nat.add_assoc _ _ _))⟩); obtain ⟨i028, hi028, _, hsz28, _⟩ := info_parts info5; obtain ⟨A28, hcut28, hA28, hC28⟩ := Hlp.print_mid3_of (P := Try.prog) (Value.int .u8) 0 28 5 .i64 .i64 .i64 Try.underlying28 hi028 hsz28 A0 c0 l0 t108 (ji11) (of_decide_eq_true (by first | (with_reducible assumption) | assumption)) (by first | omega | exact of_decide_eq_true (by first | (with_reducible assumption) | assumption)) (of_decide_eq_true (by first | (with_reducible assumption) | assumption)) HC0.out; have HR110 := Aside0.mk (Kd.C_of_reads (h1 := fun _ => rfl) (hA28 _ (Kd.reads_of_C HR0.out))); have HC110 := Aside0.mk hC28; clear hA28 hC28 hi028 hsz28) | ((with_reducible refine gate_dst (N := 45) rfl ?_); refine Kd.R_make (Kd.int .u8) _ 5 ?hg (N := 45) ?hd 28 (.tmp 44) (.tmp 44) ?ho (t107) ?hx ?hy Try.underlying28 (.int .u8 0) 1 info5 rfl (by decide) (by decide) (0 : Int) (ok := fun _ => True) (okp := fun _ => True) ?hz (fun _ hk => hk) trivial ?h0 ?hl (Below.refl _ _) (Nat.le_refl _) ?_; (case hd => rfl); (case hg => rfl); (case ho => rfl); (case hx => first | rfl | (go_simp; done)); (case hy => first | rfl | (go_simp; done)); (case hz => exact Hlp.zero_u8 _ _ _); (case h0 => have := HMk.out; omega); (case hl => have := HMk.out; omega); intro v112 w29 ho30 hb hg_ hnew_; clear hg_ hnew_; have HO113 := Aside0.mk (Kd.R_lower ho30 (below_size (Hlp.bl HB.out))); replace HB := Aside0.mk (below_step (Hlp.bl HB.out) hb); clear hb ho30; obtain ⟨i031, hi031, _, hsz31, _⟩ := info_parts info5; obtain ⟨A31, hcut31, hA31, hC31⟩ := print_mid_of (P := Try.prog) (Value.int .u8) 0 28 5 .i64 .i64 Try.underlying28 hi031 hsz31 A0 c0 l0 (ji11) (wrap64 ((ji11) + t107)) (of_decide_eq_true (by first | (with_reducible assumption) | assumption)) (by first | omega | exact of_decide_eq_true (by first | (with_reducible assumption) | assumption)) (of_decide_eq_true (by first | (with_reducible assumption) | assumption)) HC0.out; have HR114 := Aside0.mk (Kd.C_of_reads (h1 := fun _ => rfl) (hA31 _ (Kd.reads_of_C HR0.out))); have HC114 := Aside0.mk hC31; clear hA31 hC31 hi031 hsz31) | ((with_reducible refine gate_builtin (b := .copy) (xs := #[.tmp 46, .tmp 54]) rfl ?_); refine Kd.R_copy (enc := Value.int .u8) (h1 := fun _ => rfl) (0 : Int) (w0 := w) w.heap.size rfl (.tmp 46) (.tmp 54) 28 28 5 rfl Try.underlying28 ?gi v112 (List.replicate (t107).toNat (0 : Int)) ((l0.take ((wrap64 ((ji11) + t107)) : Int).toNat).drop ((ji11) : Int).toNat) _ _ _ (fun _ => True) rfl rfl ?gO ?aR ?gB ?gb ?_; (case gi => kernel_rfl); (case aR => first | (rw [← show ((l0.take ((wrap64 ((ji11) + t107)) : Int).toNat).drop ((ji11) : Int).toNat).length = ((wrap64 ((ji11) + t107)).toNat - (ji11).toNat) from (by rw [List.length_drop, List.length_take]; have h_ : ((wrap64 ((ji11) + t107)) : Int) ≤ (l0.length : Int) := of_decide_eq_true (by first | (with_reducible assumption) | assumption); omega)]; repeat (first | exact (Kd.C_below HR114.out HB.out) | (with_reducible refine Kd.C_alloc ?_ _) | (with_reducible refine Kd.C_drewN ?_ _) | (with_reducible refine Kd.C_drew ?_))) | (repeat (first | exact (Kd.C_below HR114.out HB.out) | (with_reducible refine Kd.C_alloc ?_ _) | (with_reducible refine Kd.C_drewN ?_ _) | (with_reducible refine Kd.C_drew ?_)))); (case gO => exact HO113.out); (case gB => exact HB.out); (case gb => exact HB.out.size); intro w32 ho hb hg; rw [Hlp.copied _ _ _ (by first | exact HLn.out | (rw [← HLn.out, List.length_drop, List.length_take]; omega)) HLn.out, show ((l0.take ((wrap64 ((ji11) + t107)) : Int).toNat).drop ((ji11) : Int).toNat) = y115 from (by rw [Ny115.out, Ny111.out]; rfl)] at ho; have n0_ := Aside0.mk (hb); have n1_ := Aside0.mk (ho); clear HB; clear HO113; have HB := n0_; have HO117 := n1_; clear n0_ n1_; clear ho hb hg; have qa0_ : (0 < ((ji11) : Int).toNat - (t108 : Int).toNat) = True := eq_true (by have := HQn.out; omega); have qb0_ : ((0 : Int) < ((((ji11) : Int).toNat - (t108 : Int).toNat : Nat) : Int)) = True := eq_true (by have := HQn.out; omega); have qa1_ : (1 < ((ji11) : Int).toNat - (t108 : Int).toNat) = True := eq_true (by have := HQn.out; omega); have qb1_ : ((1 : Int) < ((((ji11) : Int).toNat - (t108 : Int).toNat : Nat) : Int)) = True := eq_true (by have := HQn.out; omega); have qa2_ : (2 < ((ji11) : Int).toNat - (t108 : Int).toNat) = True := eq_true (by have := HQn.out; omega); have qb2_ : ((2 : Int) < ((((ji11) : Int).toNat - (t108 : Int).toNat : Nat) : Int)) = True := eq_true (by have := HQn.out; omega); have qa3_ : (3 < ((ji11) : Int).toNat - (t108 : Int).toNat) = True := eq_true (by have := HQn.out; omega); have qb3_ : ((3 : Int) < ((((ji11) : Int).toNat - (t108 : Int).toNat : Nat) : Int)) = True := eq_true (by have := HQn.out; omega); have p118 : 0 ≤ (0 : Int) := (by omega); have q118 : 0 < (((l0.take ((ji11) : Int).toNat).drop (t108 : Int).toNat).length : Int) := of_decide_eq_true (by first | (with_reducible assumption) | assumption); obtain ⟨ad118, e118, hx118_0⟩ := Kd.at_int HR110.out 0 p118 q118; cases e118; have qi118 : (0 < ((l0.take ((ji11) : Int).toNat).drop (t108 : Int).toNat).length) = True := eq_true (by omega); (try rw [show ((0 : Int)).toNat = 0 from rfl] at hx118_0); (try rw [Addr.add_zero'] at hx118_0); replace hx118_0 := (HB.out.cell (World.block_lt_of_cell? w _ hx118_0)).trans hx118_0; replace p118 := eq_true p118; replace q118 := eq_true q118; have p119 : 0 ≤ (1 : Int) := (by omega); have q119 : 1 < (((l0.take ((ji11) : Int).toNat).drop (t108 : Int).toNat).length : Int) := of_decide_eq_true (by first | (with_reducible assumption) | assumption); obtain ⟨ad119, e119, hx119_0⟩ := Kd.at_int HR110.out 1 p119 q119; obtain rfl : ad118 = ad119 := (by injection e119); (try simp only [show (1 : Int).toNat = 1 from rfl, Nat.reduceMul, Nat.reduceEqDiff, Go.Addr.add, ↓reduceIte] at hx119_0); have qi119 : (1 < ((l0.take ((ji11) : Int).toNat).drop (t108 : Int).toNat).length) = True := eq_true (by omega); (try rw [show ((1 : Int)).toNat = 1 from rfl] at hx119_0); replace hx119_0 := (HB.out.cell (World.block_lt_of_cell? w _ hx119_0)).trans hx119_0; replace p119 := eq_true p119; replace q119 := eq_true q119; have p120 : 0 ≤ (2 : Int) := (by omega); have q120 : 2 < (((l0.take ((ji11) : Int).toNat).drop (t108 : Int).toNat).length : Int) := of_decide_eq_true (by first | (with_reducible assumption) | assumption); obtain ⟨ad120, e120, hx120_0⟩ := Kd.at_int HR110.out 2 p120 q120; obtain rfl : ad118 = ad120 := (by injection e120); (try simp only [show (2 : Int).toNat = 2 from rfl, Nat.reduceMul, Nat.reduceEqDiff, Go.Addr.add, ↓reduceIte] at hx120_0); have qi120 : (2 < ((l0.take ((ji11) : Int).toNat).drop (t108 : Int).toNat).length) = True := eq_true (by omega); (try rw [show ((2 : Int)).toNat = 2 from rfl] at hx120_0); replace hx120_0 := (HB.out.cell (World.block_lt_of_cell? w _ hx120_0)).trans hx120_0; replace p120 := eq_true p120; replace q120 := eq_true q120; have p121 : 0 ≤ (3 : Int) := (by omega); have q121 : 3 < (((l0.take ((ji11) : Int).toNat).drop (t108 : Int).toNat).length : Int) := of_decide_eq_true (by first | (with_reducible assumption) | assumption); obtain ⟨ad121, e121, hx121_0⟩ := Kd.at_int HR110.out 3 p121 q121; obtain rfl : ad118 = ad121 := (by injection e121); (try simp only [show (3 : Int).toNat = 3 from rfl, Nat.reduceMul, Nat.reduceEqDiff, Go.Addr.add, ↓reduceIte] at hx121_0); have qi121 : (3 < ((l0.take ((ji11) : Int).toNat).drop (t108 : Int).toNat).length) = True := eq_true (by omega); (try rw [show ((3 : Int)).toNat = 3 from rfl] at hx121_0); replace hx121_0 := (HB.out.cell (World.block_lt_of_cell? w _ hx121_0)).trans hx121_0; replace p121 := eq_true p121; replace q121 := eq_true q121; obtain ⟨Ao33, co33, eo33⟩ := Kd.R_slice HO117.out; subst eo33) | (go_at_call 81; (with_reducible refine (frame_Sum.calls k _ _ y115 t122 _ ?side1 ?side2 A20.out).mono ?_); (case side1 => exact Hlp.cp (Kd.R_reads' HO117.out).2.2); (case side2 => exact (Kd.R_reads' HO117.out).2.1); rintro e w' ⟨rfl, ⟨nd, rfl⟩⟩; (try first | exact ⟨rfl, _, World.drewN_drewN _ _ _⟩ | exact ⟨rfl, _, Eq.trans (World.drewN_drewN _ _ _) (congrArg (World.drewN _) (Nat.add_assoc _ _ _))⟩)))
                 repeat (go_quiet (first | (go_at_call 71; (with_reducible refine (pack_Num.calls k _ _ l0 a1 t107 t108 t109 _ ?side1 ?side2 A3.out).mono ?_); (case side1 => exact Hlp.cp HR0.out); (case side2 => exact HC0.out); rintro e w' ⟨rfl, ⟨nd, rfl⟩⟩; (try first | exact ⟨rfl, _, World.drewN_drewN _ _ _⟩ | exact ⟨rfl, _, Eq.trans (World.drewN_drewN _ _ _) (congrArg (World.drewN _) (Nat.add_assoc _ _ _))⟩); obtain ⟨i028, hi028, _, hsz28, _⟩ := info_parts info5; obtain ⟨A28, hcut28, hA28, hC28⟩ := Hlp.print_mid3_of (P := Try.prog) (Value.int .u8) 0 28 5 .i64 .i64 .i64 Try.underlying28 hi028 hsz28 A0 c0 l0 t108 (ji11) (of_decide_eq_true (by first | (with_reducible assumption) | assumption)) (by first | omega | exact of_decide_eq_true (by first | (with_reducible assumption) | assumption)) (of_decide_eq_true (by first | (with_reducible assumption) | assumption)) HC0.out; have HR110 := Aside0.mk (Kd.C_of_reads (h1 := fun _ => rfl) (hA28 _ (Kd.reads_of_C HR0.out))); have HC110 := Aside0.mk hC28; clear hA28 hC28 hi028 hsz28) | ((with_reducible refine gate_dst (N := 45) rfl ?_); refine Kd.R_make (Kd.int .u8) _ 5 ?hg (N := 45) ?hd 28 (.tmp 44) (.tmp 44) ?ho (t107) ?hx ?hy Try.underlying28 (.int .u8 0) 1 info5 rfl (by decide) (by decide) (0 : Int) (ok := fun _ => True) (okp := fun _ => True) ?hz (fun _ hk => hk) trivial ?h0 ?hl (Below.refl _ _) (Nat.le_refl _) ?_; (case hd => rfl); (case hg => rfl); (case ho => rfl); (case hx => first | rfl | (go_simp; done)); (case hy => first | rfl | (go_simp; done)); (case hz => exact Hlp.zero_u8 _ _ _); (case h0 => have := HMk.out; omega); (case hl => have := HMk.out; omega); intro v112 w29 ho30 hb hg_ hnew_; clear hg_ hnew_; have HO113 := Aside0.mk (Kd.R_lower ho30 (below_size (Hlp.bl HB.out))); replace HB := Aside0.mk (below_step (Hlp.bl HB.out) hb); clear hb ho30; obtain ⟨i031, hi031, _, hsz31, _⟩ := info_parts info5; obtain ⟨A31, hcut31, hA31, hC31⟩ := print_mid_of (P := Try.prog) (Value.int .u8) 0 28 5 .i64 .i64 Try.underlying28 hi031 hsz31 A0 c0 l0 (ji11) (wrap64 ((ji11) + t107)) (of_decide_eq_true (by first | (with_reducible assumption) | assumption)) (by first | omega | exact of_decide_eq_true (by first | (with_reducible assumption) | assumption)) (of_decide_eq_true (by first | (with_reducible assumption) | assumption)) HC0.out; have HR114 := Aside0.mk (Kd.C_of_reads (h1 := fun _ => rfl) (hA31 _ (Kd.reads_of_C HR0.out))); have HC114 := Aside0.mk hC31; clear hA31 hC31 hi031 hsz31) | ((with_reducible refine gate_builtin (b := .copy) (xs := #[.tmp 46, .tmp 54]) rfl ?_); refine Kd.R_copy (enc := Value.int .u8) (h1 := fun _ => rfl) (0 : Int) (w0 := w) w.heap.size rfl (.tmp 46) (.tmp 54) 28 28 5 rfl Try.underlying28 ?gi v112 (List.replicate (t107).toNat (0 : Int)) ((l0.take ((wrap64 ((ji11) + t107)) : Int).toNat).drop ((ji11) : Int).toNat) _ _ _ (fun _ => True) rfl rfl ?gO ?aR ?gB ?gb ?_; (case gi => kernel_rfl); (case aR => first | (rw [← show ((l0.take ((wrap64 ((ji11) + t107)) : Int).toNat).drop ((ji11) : Int).toNat).length = ((wrap64 ((ji11) + t107)).toNat - (ji11).toNat) from (by rw [List.length_drop, List.length_take]; have h_ : ((wrap64 ((ji11) + t107)) : Int) ≤ (l0.length : Int) := of_decide_eq_true (by first | (with_reducible assumption) | assumption); omega)]; repeat (first | exact (Kd.C_below HR114.out HB.out) | (with_reducible refine Kd.C_alloc ?_ _) | (with_reducible refine Kd.C_drewN ?_ _) | (with_reducible refine Kd.C_drew ?_))) | (repeat (first | exact (Kd.C_below HR114.out HB.out) | (with_reducible refine Kd.C_alloc ?_ _) | (with_reducible refine Kd.C_drewN ?_ _) | (with_reducible refine Kd.C_drew ?_)))); (case gO => exact HO113.out); (case gB => exact HB.out); (case gb => exact HB.out.size); intro w32 ho hb hg; rw [Hlp.copied _ _ _ (by first | exact HLn.out | (rw [← HLn.out, List.length_drop, List.length_take]; omega)) HLn.out, show ((l0.take ((wrap64 ((ji11) + t107)) : Int).toNat).drop ((ji11) : Int).toNat) = y115 from (by rw [Ny115.out, Ny111.out]; rfl)] at ho; have n0_ := Aside0.mk (hb); have n1_ := Aside0.mk (ho); clear HB; clear HO113; have HB := n0_; have HO117 := n1_; clear n0_ n1_; clear ho hb hg; have qa0_ : (0 < ((ji11) : Int).toNat - (t108 : Int).toNat) = True := eq_true (by have := HQn.out; omega); have qb0_ : ((0 : Int) < ((((ji11) : Int).toNat - (t108 : Int).toNat : Nat) : Int)) = True := eq_true (by have := HQn.out; omega); have qa1_ : (1 < ((ji11) : Int).toNat - (t108 : Int).toNat) = True := eq_true (by have := HQn.out; omega); have qb1_ : ((1 : Int) < ((((ji11) : Int).toNat - (t108 : Int).toNat : Nat) : Int)) = True := eq_true (by have := HQn.out; omega); have qa2_ : (2 < ((ji11) : Int).toNat - (t108 : Int).toNat) = True := eq_true (by have := HQn.out; omega); have qb2_ : ((2 : Int) < ((((ji11) : Int).toNat - (t108 : Int).toNat : Nat) : Int)) = True := eq_true (by have := HQn.out; omega); have qa3_ : (3 < ((ji11) : Int).toNat - (t108 : Int).toNat) = True := eq_true (by have := HQn.out; omega); have qb3_ : ((3 : Int) < ((((ji11) : Int).toNat - (t108 : Int).toNat : Nat) : Int)) = True := eq_true (by have := HQn.out; omega); have p118 : 0 ≤ (0 : Int) := (by omega); have q118 : 0 < (((l0.take ((ji11) : Int).toNat).drop (t108 : Int).toNat).length : Int) := of_decide_eq_true (by first | (with_reducible assumption) | assumption); obtain ⟨ad118, e118, hx118_0⟩ := Kd.at_int HR110.out 0 p118 q118; cases e118; have qi118 : (0 < ((l0.take ((ji11) : Int).toNat).drop (t108 : Int).toNat).length) = True := eq_true (by omega); (try rw [show ((0 : Int)).toNat = 0 from rfl] at hx118_0); (try rw [Addr.add_zero'] at hx118_0); replace hx118_0 := (HB.out.cell (World.block_lt_of_cell? w _ hx118_0)).trans hx118_0; replace p118 := eq_true p118; replace q118 := eq_true q118; have p119 : 0 ≤ (1 : Int) := (by omega); have q119 : 1 < (((l0.take ((ji11) : Int).toNat).drop (t108 : Int).toNat).length : Int) := of_decide_eq_true (by first | (with_reducible assumption) | assumption); obtain ⟨ad119, e119, hx119_0⟩ := Kd.at_int HR110.out 1 p119 q119; obtain rfl : ad118 = ad119 := (by injection e119); (try simp only [show (1 : Int).toNat = 1 from rfl, Nat.reduceMul, Nat.reduceEqDiff, Go.Addr.add, ↓reduceIte] at hx119_0); have qi119 : (1 < ((l0.take ((ji11) : Int).toNat).drop (t108 : Int).toNat).length) = True := eq_true (by omega); (try rw [show ((1 : Int)).toNat = 1 from rfl] at hx119_0); replace hx119_0 := (HB.out.cell (World.block_lt_of_cell? w _ hx119_0)).trans hx119_0; replace p119 := eq_true p119; replace q119 := eq_true q119; have p120 : 0 ≤ (2 : Int) := (by omega); have q120 : 2 < (((l0.take ((ji11) : Int).toNat).drop (t108 : Int).toNat).length : Int) := of_decide_eq_true (by first | (with_reducible assumption) | assumption); obtain ⟨ad120, e120, hx120_0⟩ := Kd.at_int HR110.out 2 p120 q120; obtain rfl : ad118 = ad120 := (by injection e120); (try simp only [show (2 : Int).toNat = 2 from rfl, Nat.reduceMul, Nat.reduceEqDiff, Go.Addr.add, ↓reduceIte] at hx120_0); have qi120 : (2 < ((l0.take ((ji11) : Int).toNat).drop (t108 : Int).toNat).length) = True := eq_true (by omega); (try rw [show ((2 : Int)).toNat = 2 from rfl] at hx120_0); replace hx120_0 := (HB.out.cell (World.block_lt_of_cell? w _ hx120_0)).trans hx120_0; replace p120 := eq_true p120; replace q120 := eq_true q120; have p121 : 0 ≤ (3 : Int) := (by omega); have q121 : 3 < (((l0.take ((ji11) : Int).toNat).drop (t108 : Int).toNat).length : Int) := of_decide_eq_true (by first | (with_reducible assumption) | assumption); obtain ⟨ad121, e121, hx121_0⟩ := Kd.at_int HR110.out 3 p121 q121; obtain rfl : ad118 = ad121 := (by injection e121); (try simp only [show (3 : Int).toNat = 3 from rfl, Nat.reduceMul, Nat.reduceEqDiff, Go.Addr.add, ↓reduceIte] at hx121_0); have qi121 : (3 < ((l0.take ((ji11) : Int).toNat).drop (t108 : Int).toNat).length) = True := eq_true (by omega); (try rw [show ((3 : Int)).toNat = 3 from rfl] at hx121_0); replace hx121_0 := (HB.out.cell (World.block_lt_of_cell? w _ hx121_0)).trans hx121_0; replace p121 := eq_true p121; replace q121 := eq_true q121; obtain ⟨Ao33, co33, eo33⟩ := Kd.R_slice HO117.out; subst eo33) | (go_at_call 81; (with_reducible refine (frame_Sum.calls k _ _ y115 t122 _ ?side1 ?side2 A20.out).mono ?_); (case side1 => exact Hlp.cp (Kd.R_reads' HO117.out).2.2); (case side2 => exact (Kd.R_reads' HO117.out).2.1); rintro e w' ⟨rfl, ⟨nd, rfl⟩⟩; (try first | exact ⟨rfl, _, World.drewN_drewN _ _ _⟩ | exact ⟨rfl, _, Eq.trans (World.drewN_drewN _ _ _) (congrArg (World.drewN _) (Nat.add_assoc _ _ _))⟩))); try go_wp2_with (first | (go_at_call 71; (with_reducible refine (pack_Num.calls k _ _ l0 a1 t107 t108 t109 _ ?side1 ?side2 A3.out).mono ?_); (case side1 => exact Hlp.cp HR0.out); (case side2 => exact HC0.out); rintro e w' ⟨rfl, ⟨nd, rfl⟩⟩; (try first | exact ⟨rfl, _, World.drewN_drewN _ _ _⟩ | exact ⟨rfl, _, Eq.trans (World.drewN_drewN _ _ _) (congrArg (World.drewN _) (Nat.add_assoc _ _ _))⟩); obtain ⟨i028, hi028, _, hsz28, _⟩ := info_parts info5; obtain ⟨A28, hcut28, hA28, hC28⟩ := Hlp.print_mid3_of (P := Try.prog) (Value.int .u8) 0 28 5 .i64 .i64 .i64 Try.underlying28 hi028 hsz28 A0 c0 l0 t108 (ji11) (of_decide_eq_true (by first | (with_reducible assumption) | assumption)) (by first | omega | exact of_decide_eq_true (by first | (with_reducible assumption) | assumption)) (of_decide_eq_true (by first | (with_reducible assumption) | assumption)) HC0.out; have HR110 := Aside0.mk (Kd.C_of_reads (h1 := fun _ => rfl) (hA28 _ (Kd.reads_of_C HR0.out))); have HC110 := Aside0.mk hC28; clear hA28 hC28 hi028 hsz28) | ((with_reducible refine gate_dst (N := 45) rfl ?_); refine Kd.R_make (Kd.int .u8) _ 5 ?hg (N := 45) ?hd 28 (.tmp 44) (.tmp 44) ?ho (t107) ?hx ?hy Try.underlying28 (.int .u8 0) 1 info5 rfl (by decide) (by decide) (0 : Int) (ok := fun _ => True) (okp := fun _ => True) ?hz (fun _ hk => hk) trivial ?h0 ?hl (Below.refl _ _) (Nat.le_refl _) ?_; (case hd => rfl); (case hg => rfl); (case ho => rfl); (case hx => first | rfl | (go_simp; done)); (case hy => first | rfl | (go_simp; done)); (case hz => exact Hlp.zero_u8 _ _ _); (case h0 => have := HMk.out; omega); (case hl => have := HMk.out; omega); intro v112 w29 ho30 hb hg_ hnew_; clear hg_ hnew_; have HO113 := Aside0.mk (Kd.R_lower ho30 (below_size (Hlp.bl HB.out))); replace HB := Aside0.mk (below_step (Hlp.bl HB.out) hb); clear hb ho30; obtain ⟨i031, hi031, _, hsz31, _⟩ := info_parts info5; obtain ⟨A31, hcut31, hA31, hC31⟩ := print_mid_of (P := Try.prog) (Value.int .u8) 0 28 5 .i64 .i64 Try.underlying28 hi031 hsz31 A0 c0 l0 (ji11) (wrap64 ((ji11) + t107)) (of_decide_eq_true (by first | (with_reducible assumption) | assumption)) (by first | omega | exact of_decide_eq_true (by first | (with_reducible assumption) | assumption)) (of_decide_eq_true (by first | (with_reducible assumption) | assumption)) HC0.out; have HR114 := Aside0.mk (Kd.C_of_reads (h1 := fun _ => rfl) (hA31 _ (Kd.reads_of_C HR0.out))); have HC114 := Aside0.mk hC31; clear hA31 hC31 hi031 hsz31) | ((with_reducible refine gate_builtin (b := .copy) (xs := #[.tmp 46, .tmp 54]) rfl ?_); refine Kd.R_copy (enc := Value.int .u8) (h1 := fun _ => rfl) (0 : Int) (w0 := w) w.heap.size rfl (.tmp 46) (.tmp 54) 28 28 5 rfl Try.underlying28 ?gi v112 (List.replicate (t107).toNat (0 : Int)) ((l0.take ((wrap64 ((ji11) + t107)) : Int).toNat).drop ((ji11) : Int).toNat) _ _ _ (fun _ => True) rfl rfl ?gO ?aR ?gB ?gb ?_; (case gi => kernel_rfl); (case aR => first | (rw [← show ((l0.take ((wrap64 ((ji11) + t107)) : Int).toNat).drop ((ji11) : Int).toNat).length = ((wrap64 ((ji11) + t107)).toNat - (ji11).toNat) from (by rw [List.length_drop, List.length_take]; have h_ : ((wrap64 ((ji11) + t107)) : Int) ≤ (l0.length : Int) := of_decide_eq_true (by first | (with_reducible assumption) | assumption); omega)]; repeat (first | exact (Kd.C_below HR114.out HB.out) | (with_reducible refine Kd.C_alloc ?_ _) | (with_reducible refine Kd.C_drewN ?_ _) | (with_reducible refine Kd.C_drew ?_))) | (repeat (first | exact (Kd.C_below HR114.out HB.out) | (with_reducible refine Kd.C_alloc ?_ _) | (with_reducible refine Kd.C_drewN ?_ _) | (with_reducible refine Kd.C_drew ?_)))); (case gO => exact HO113.out); (case gB => exact HB.out); (case gb => exact HB.out.size); intro w32 ho hb hg; rw [Hlp.copied _ _ _ (by first | exact HLn.out | (rw [← HLn.out, List.length_drop, List.length_take]; omega)) HLn.out, show ((l0.take ((wrap64 ((ji11) + t107)) : Int).toNat).drop ((ji11) : Int).toNat) = y115 from (by rw [Ny115.out, Ny111.out]; rfl)] at ho; have n0_ := Aside0.mk (hb); have n1_ := Aside0.mk (ho); clear HB; clear HO113; have HB := n0_; have HO117 := n1_; clear n0_ n1_; clear ho hb hg; have qa0_ : (0 < ((ji11) : Int).toNat - (t108 : Int).toNat) = True := eq_true (by have := HQn.out; omega); have qb0_ : ((0 : Int) < ((((ji11) : Int).toNat - (t108 : Int).toNat : Nat) : Int)) = True := eq_true (by have := HQn.out; omega); have qa1_ : (1 < ((ji11) : Int).toNat - (t108 : Int).toNat) = True := eq_true (by have := HQn.out; omega); have qb1_ : ((1 : Int) < ((((ji11) : Int).toNat - (t108 : Int).toNat : Nat) : Int)) = True := eq_true (by have := HQn.out; omega); have qa2_ : (2 < ((ji11) : Int).toNat - (t108 : Int).toNat) = True := eq_true (by have := HQn.out; omega); have qb2_ : ((2 : Int) < ((((ji11) : Int).toNat - (t108 : Int).toNat : Nat) : Int)) = True := eq_true (by have := HQn.out; omega); have qa3_ : (3 < ((ji11) : Int).toNat - (t108 : Int).toNat) = True := eq_true (by have := HQn.out; omega); have qb3_ : ((3 : Int) < ((((ji11) : Int).toNat - (t108 : Int).toNat : Nat) : Int)) = True := eq_true (by have := HQn.out; omega); have p118 : 0 ≤ (0 : Int) := (by omega); have q118 : 0 < (((l0.take ((ji11) : Int).toNat).drop (t108 : Int).toNat).length : Int) := of_decide_eq_true (by first | (with_reducible assumption) | assumption); obtain ⟨ad118, e118, hx118_0⟩ := Kd.at_int HR110.out 0 p118 q118; cases e118; have qi118 : (0 < ((l0.take ((ji11) : Int).toNat).drop (t108 : Int).toNat).length) = True := eq_true (by omega); (try rw [show ((0 : Int)).toNat = 0 from rfl] at hx118_0); (try rw [Addr.add_zero'] at hx118_0); replace hx118_0 := (HB.out.cell (World.block_lt_of_cell? w _ hx118_0)).trans hx118_0; replace p118 := eq_true p118; replace q118 := eq_true q118; have p119 : 0 ≤ (1 : Int) := (by omega); have q119 : 1 < (((l0.take ((ji11) : Int).toNat).drop (t108 : Int).toNat).length : Int) := of_decide_eq_true (by first | (with_reducible assumption) | assumption); obtain ⟨ad119, e119, hx119_0⟩ := Kd.at_int HR110.out 1 p119 q119; obtain rfl : ad118 = ad119 := (by injection e119); (try simp only [show (1 : Int).toNat = 1 from rfl, Nat.reduceMul, Nat.reduceEqDiff, Go.Addr.add, ↓reduceIte] at hx119_0); have qi119 : (1 < ((l0.take ((ji11) : Int).toNat).drop (t108 : Int).toNat).length) = True := eq_true (by omega); (try rw [show ((1 : Int)).toNat = 1 from rfl] at hx119_0); replace hx119_0 := (HB.out.cell (World.block_lt_of_cell? w _ hx119_0)).trans hx119_0; replace p119 := eq_true p119; replace q119 := eq_true q119; have p120 : 0 ≤ (2 : Int) := (by omega); have q120 : 2 < (((l0.take ((ji11) : Int).toNat).drop (t108 : Int).toNat).length : Int) := of_decide_eq_true (by first | (with_reducible assumption) | assumption); obtain ⟨ad120, e120, hx120_0⟩ := Kd.at_int HR110.out 2 p120 q120; obtain rfl : ad118 = ad120 := (by injection e120); (try simp only [show (2 : Int).toNat = 2 from rfl, Nat.reduceMul, Nat.reduceEqDiff, Go.Addr.add, ↓reduceIte] at hx120_0); have qi120 : (2 < ((l0.take ((ji11) : Int).toNat).drop (t108 : Int).toNat).length) = True := eq_true (by omega); (try rw [show ((2 : Int)).toNat = 2 from rfl] at hx120_0); replace hx120_0 := (HB.out.cell (World.block_lt_of_cell? w _ hx120_0)).trans hx120_0; replace p120 := eq_true p120; replace q120 := eq_true q120; have p121 : 0 ≤ (3 : Int) := (by omega); have q121 : 3 < (((l0.take ((ji11) : Int).toNat).drop (t108 : Int).toNat).length : Int) := of_decide_eq_true (by first | (with_reducible assumption) | assumption); obtain ⟨ad121, e121, hx121_0⟩ := Kd.at_int HR110.out 3 p121 q121; obtain rfl : ad118 = ad121 := (by injection e121); (try simp only [show (3 : Int).toNat = 3 from rfl, Nat.reduceMul, Nat.reduceEqDiff, Go.Addr.add, ↓reduceIte] at hx121_0); have qi121 : (3 < ((l0.take ((ji11) : Int).toNat).drop (t108 : Int).toNat).length) = True := eq_true (by omega); (try rw [show ((3 : Int)).toNat = 3 from rfl] at hx121_0); replace hx121_0 := (HB.out.cell (World.block_lt_of_cell? w _ hx121_0)).trans hx121_0; replace p121 := eq_true p121; replace q121 := eq_true q121; obtain ⟨Ao33, co33, eo33⟩ := Kd.R_slice HO117.out; subst eo33) | (go_at_call 81; (with_reducible refine (frame_Sum.calls k _ _ y115 t122 _ ?side1 ?side2 A20.out).mono ?_); (case side1 => exact Hlp.cp (Kd.R_reads' HO117.out).2.2); (case side2 => exact (Kd.R_reads' HO117.out).2.1); rintro e w' ⟨rfl, ⟨nd, rfl⟩⟩; (try first | exact ⟨rfl, _, World.drewN_drewN _ _ _⟩ | exact ⟨rfl, _, Eq.trans (World.drewN_drewN _ _ _) (congrArg (World.drewN _) (Nat.add_assoc _ _ _))⟩))))
                 go_ret3
                 exact ⟨_, by first | rfl | (simp [errW_none, errW_some] <;> rfl) | (simp only [← hji11]; first | rfl | (simp [errW_none, errW_some] <;> rfl)) | (simp [*, errW_none, errW_some] <;> rfl), by first | exact Kd.R_nil _ _ _ _ _ | exact Kd.N_nil _ _ _ _ _ | exact Kd.V_nil _ _ _ _ _ | exact Kd.Q_nil _ _ _ _ _ | exact Kd.S_nil _ _ _ _ _, Hlp.bl HB.out⟩
               ·
                rw [if_neg c19] at H
                exact absurd H (by simp)
              ·
               rw [if_neg c18] at H
               exact absurd H (by simp)
             ·
              rw [if_neg c17] at H
              exact absurd H (by simp)
            ·
             rw [if_neg c16] at H
             exact absurd H (by simp)
           ·
            rw [if_neg c15] at H
            exact absurd H (by simp)
          ·
           rw [if_neg c14] at H
           exact absurd H (by simp)
         ·
          rw [if_neg c13] at H
          exact absurd H (by simp)
        ·
         rw [if_neg c12] at H
         exact absurd H (by simp)
       ·
        rw [if_neg c10] at H
        exact absurd H (by simp)
      ·
       rw [if_neg c9] at H
       exact absurd H (by simp)
     ·
      rw [if_neg c8] at H
      exact absurd H (by simp)
 ·
  rw [if_neg c4] at H
  have c4b0 : (t109 == 0) = false := beq_eq_false_iff_ne.mpr c4
  have c4b1 : (t109 != 0) = true := bne_iff_ne.mpr c4
  simp only [Option.some.injEq, Prod.mk.injEq] at H
  obtain ⟨rfl, rfl, rfl⟩ := H
  go_enter Try.func70, Try.ntmps70
  go_wp2_with (first | (go_at_call 71; (with_reducible refine (pack_Num.calls k _ _ l0 a1 t107 t108 t109 _ ?side1 ?side2 A3.out).mono ?_); (case side1 => exact Hlp.cp HR0.out); (case side2 => exact HC0.out); rintro e w' ⟨rfl, ⟨nd, rfl⟩⟩; (try first | exact ⟨rfl, _, World.drewN_drewN _ _ _⟩ | exact ⟨rfl, _, Eq.trans (World.drewN_drewN _ _ _) (congrArg (World.drewN _) (Nat.add_assoc _ _ _))⟩)))
  repeat (go_quiet (first | (go_at_call 71; (with_reducible refine (pack_Num.calls k _ _ l0 a1 t107 t108 t109 _ ?side1 ?side2 A3.out).mono ?_); (case side1 => exact Hlp.cp HR0.out); (case side2 => exact HC0.out); rintro e w' ⟨rfl, ⟨nd, rfl⟩⟩; (try first | exact ⟨rfl, _, World.drewN_drewN _ _ _⟩ | exact ⟨rfl, _, Eq.trans (World.drewN_drewN _ _ _) (congrArg (World.drewN _) (Nat.add_assoc _ _ _))⟩))); try go_wp2_with (first | (go_at_call 71; (with_reducible refine (pack_Num.calls k _ _ l0 a1 t107 t108 t109 _ ?side1 ?side2 A3.out).mono ?_); (case side1 => exact Hlp.cp HR0.out); (case side2 => exact HC0.out); rintro e w' ⟨rfl, ⟨nd, rfl⟩⟩; (try first | exact ⟨rfl, _, World.drewN_drewN _ _ _⟩ | exact ⟨rfl, _, Eq.trans (World.drewN_drewN _ _ _) (congrArg (World.drewN _) (Nat.add_assoc _ _ _))⟩))))
  go_ret3
  exact ⟨_, by first | rfl | (simp [errW_none, errW_some] <;> rfl) | (simp [*, errW_none, errW_some] <;> rfl), by first | exact Kd.R_nil _ _ _ _ _ | exact Kd.N_nil _ _ _ _ _ | exact Kd.V_nil _ _ _ _ _ | exact Kd.Q_nil _ _ _ _ _ | exact Kd.S_nil _ _ _ _ _, Hlp.bl HB.out⟩


/-! ### pack_PutText: function 66 -/
def pack_PutText.f (k : Nat) (l0 : List Int) (a1 : ByteArray) : Option (List Int) := (pack_owned.f l0 (wrap64 (10 + (a1.size : Int)))).bind fun t190 => ((pack_add.f k t190 (a1.size : Int)).bind fun t193 => (if t193.length + a1.size < 140737488355328 then (some (t193 ++ bytesOf a1)) else (none)))
theorem pack_PutText.mono : ∀ a0 a1 k, LeO (pack_PutText.f k a0 a1) (pack_PutText.f (k + 1) a0 a1) := by
 intro a0 a1 k
 unfold pack_PutText.f
 repeat' first
  | (with_reducible exact pack_add.mono _ _ _)
  | (with_reducible exact LeO.refl _)
  | (with_reducible exact LeO.none _)
  | (with_reducible refine LeO.ite ?_ ?_)
  | (with_reducible refine LeO.bind ?_ (fun _ => ?_))
  | exact pack_add.mono _ _ _
  | exact LeO.none _
  | refine LeO.ite ?_ ?_
  | refine LeO.bind ?_ (fun _ => ?_)
set_option maxHeartbeats 8000000 in
set_option maxRecDepth 100000 in
theorem pack_PutText.calls (k : Nat) (A0 : Option Addr) (c0 : Nat) (l0 : List Int) (a1 : ByteArray) (r : List Int) (w : World) (hr0 : Kd.C (Kd.int .u8) w A0 l0.length l0) (hc0 : l0.length ≤ c0) (h : pack_PutText.f k l0 a1 = some r) :
 Calls Try.prog 66 #[.slice A0 l0.length c0, .string a1] w fun e w' => ∃ v0_ : Value, e = .returned (v0_) ∧ Kd.R (Kd.int .u8) 5 w' w.heap.size (fun _ => True) v0_ r ∧ Below w.heap.size w w' := by
 have HR0 := Aside0.mk hr0
 have HC0 := Aside0.mk hc0
 clear hr0 hc0
 have HB := Aside0.mk (Below.refl w.heap.size w)
 have H : ((pack_owned.f l0 (wrap64 (10 + (a1.size : Int)))).bind fun t190 => ((pack_add.f k t190 (a1.size : Int)).bind fun t193 => (if t193.length + a1.size < 140737488355328 then (some (t193 ++ bytesOf a1)) else (none)))) = some r := h
 clear h
 replace H := Option.bind_eq_some_iff.mp H
 obtain ⟨t190, A30, H⟩ := H
 replace H : ((pack_add.f k t190 (a1.size : Int)).bind fun t193 => (if t193.length + a1.size < 140737488355328 then (some (t193 ++ bytesOf a1)) else (none))) = some r := H
 have A3 := Aside0.mk A30
 clear A30
 replace H := Option.bind_eq_some_iff.mp H
 obtain ⟨t193, A40, H⟩ := H
 replace H : (if t193.length + a1.size < 140737488355328 then (some (t193 ++ bytesOf a1)) else (none)) = some r := H
 have A4 := Aside0.mk A40
 clear A40
 by_cases c5 : t193.length + a1.size < 140737488355328
 ·
  rw [if_pos c5] at H
  have LMc5 := Aside0.mk c5
  clear c5
  obtain ⟨y196, hy196⟩ : ∃ y_ : List Int, y_ = (t193 ++ bytesOf a1) := ⟨_, rfl⟩
  replace H : (some y196) = some r := by first | (rw [hy196]; with_reducible exact H) | (have H2_ := (Option.bind_some _ _).symm.trans H; rw [hy196]; with_reducible exact H2_) | (have H2_ := (Option.bind_some _ _).symm.trans H; with_reducible exact H2_) | with_reducible exact H | (rw [hy196]; exact H) | exact H
  have Ny196 := Aside0.mk hy196
  clear hy196
  obtain rfl := Option.some.inj H
  go_enter Try.func66, Try.ntmps66
  go_wp2_with (first | ((with_reducible refine gate_callee (f := 80) rfl ?_); refine Hlp.gl (some 9) Try.func80 #[.slice A0 l0.length c0, .int .i64 (wrap64 (10 + (a1.size : Int)))] ?_; (with_reducible refine (pack_owned.calls _ _ l0 (wrap64 (10 + (a1.size : Int))) t190 _ ?side1 ?side2 A3.out).mono ?_); (case side1 => exact Hlp.cp HR0.out); (case side2 => exact HC0.out); rintro e w6 ⟨v191, rfl, ho0, hb⟩; refine ⟨_, rfl, ?_⟩; have HO192 := Aside0.mk (Kd.R_lower ho0 (below_size (Hlp.bl HB.out))); replace HB := Aside0.mk (below_step (Hlp.bl HB.out) hb); (try clear hb); (try clear hb2); (try clear hk); (try clear hi); (try clear ho0); obtain ⟨Ao7, co7, eo7⟩ := Kd.R_slice HO192.out; subst eo7) | ((with_reducible refine gate_callee (f := 79) rfl ?_); refine Hlp.gl (some 12) Try.func79 #[.slice Ao7 t190.length co7, .int .i64 (a1.size : Int)] ?_; (with_reducible refine (pack_add.calls k (fun k_ => some k_ = (.slice Ao7 t190.length co7 : Value).ownBlock) (.slice Ao7 t190.length co7) t190 (a1.size : Int) t193 w _ ?side1 ?side2 A4.out).mono ?_); (case side1 => repeat (first | (with_reducible first | exact HB.out | apply below_alloc | apply pw_below_drewN | apply below_drew1) | exact HB.out)); (case side2 => exact Kd.R_tight rfl HO192.out); rintro e w8 ⟨v194, rfl, ho0, hb, hkp⟩; refine ⟨_, rfl, ?_⟩; have n0_ := Aside0.mk (Kd.R_mono (ok' := fun k_ => True) ho0 (fun k_ hk_ => trivial)); have n1_ := Aside0.mk (hb); clear HB; clear HO192; have HO195 := n0_; have HB := n1_; clear n0_ n1_; (try clear hb); (try clear hkp); (try clear ho0)) | (at_builtin; refine print_append_str (w0 := w) w.heap.size rfl (.tmp 12) _ 28 9 5 rfl Try.underlying28 Try.underlying9 info5 v194 t193 a1 rfl rfl ?aO ?aB ?aS ?aL ?_; (case aB => exact (Hlp.bl HB.out)); (case aO => exact (Kd.own_of_R (Hlp.rp HO195.out))); (case aS => exact (below_size (Hlp.bl HB.out))); (case aL => have := LMc5.out; omega); intro v197 w9 ho0 hb hg; have ho := Kd.R_of_own (h1 := fun _ => rfl) (ok := fun _ => True) ho0 (fun _ _ => trivial); clear ho0; have hat := True.intro; rw [← Ny196.out] at ho; change Kd.R (Kd.int .u8) 5 w9 w.heap.size (fun _ => True) v197 y196 at ho; have n0_ := Aside0.mk (hb); have n1_ := Aside0.mk (ho); clear HB; clear HO195; have HB := n0_; have HO198 := n1_; clear n0_ n1_; clear ho hb hg hat))
  go_ret
  exact ⟨_, by first | rfl | (simp [errW_none, errW_some] <;> rfl) | (simp [*, errW_none, errW_some] <;> rfl), by (with_reducible repeat (first | apply Kd.R_alloc | apply Kd.R_drewN | apply Kd.R_drew)); exact HO198.out, Hlp.bl HB.out⟩
 ·
  rw [if_neg c5] at H
  exact absurd H (by simp)


/-! ### record_Encode: function 25 -/
def record_Encode.f (k : Nat) (a0_0 : Int) (a0_1 : Int) (a0_2 : ByteArray) (a0_3 : ByteArray) : Option (List Int × Int) := (record_Check.f k a0_0 a0_1 a0_2 a0_3).bind fun t200 => (if t200 = 0 then ((pack_PutNum.f k ([] : List Int) a0_0).bind fun t201 => ((pack_PutNum.f k t201 a0_1).bind fun t204 => ((pack_PutText.f k t204 a0_2).bind fun t207 => ((pack_PutText.f k t207 a0_3).bind fun t210 => ((frame_Wrap.f k t210).bind fun t213 => ((some (([] : List Int) : List Int)).bind fun y216 => (if y216.length + t213.length < 140737488355328 then (some ((y216 ++ t213), 0)) else (none)))))))) else (some (([] : List Int), t200)))
theorem record_Encode.mono : ∀ a0 a1 a2 a3 k, LeO (record_Encode.f k a0 a1 a2 a3) (record_Encode.f (k + 1) a0 a1 a2 a3) := by
 intro a0 a1 a2 a3 k
 unfold record_Encode.f
 repeat' first
  | (with_reducible exact frame_Wrap.mono _ _)
  | (with_reducible exact pack_PutNum.mono _ _ _)
  | (with_reducible exact pack_PutText.mono _ _ _)
  | (with_reducible exact record_Check.mono _ _ _ _ _)
  | (with_reducible exact LeO.refl _)
  | (with_reducible exact LeO.none _)
  | (with_reducible refine LeO.ite ?_ ?_)
  | (with_reducible refine LeO.bind ?_ (fun _ => ?_))
  | exact frame_Wrap.mono _ _
  | exact pack_PutNum.mono _ _ _
  | exact pack_PutText.mono _ _ _
  | exact record_Check.mono _ _ _ _ _
  | exact LeO.none _
  | refine LeO.ite ?_ ?_
  | refine LeO.bind ?_ (fun _ => ?_)
def record_Encode.T5 : Bool × List (List Nat × List Nat) := (true, [([], []), ([], []), ([1], [1]), ([0, 2], [0, 2]), ([], []), ([4], [4]), ([3, 5, 3], [3, 5]), ([6, 6], [6]), ([7, 7, 0, 1, 2, 3, 4, 5, 6, 7], [7])])
def record_Encode.B5 : List Nat := [0, 0, 2, 7, 0, 16, 63, 127, 255]
theorem record_Encode.tab5 : rtab .any (opsOf Try.f25 5) = record_Encode.T5 := by kernel_rfl
theorem record_Encode.bits5 : waitsOk record_Encode.T5.2 record_Encode.B5 = true := by kernel_rfl
set_option maxHeartbeats 8000000 in
set_option maxRecDepth 100000 in
theorem record_Encode.calls (k : Nat) (a0_0 : Int) (a0_1 : Int) (a0_2 : ByteArray) (a0_3 : ByteArray) (r1 : List Int) (r2 : Int) (w : World) (h : record_Encode.f k a0_0 a0_1 a0_2 a0_3 = some (r1, r2)) :
 Calls Try.prog 25 #[.agg #[.int .i64 a0_0, .int .i64 a0_1, .string a0_2, .string a0_3]] w fun e w' => ∃ v0_ : Value, e = .returned (.tuple #[v0_, .int .i64 r2]) ∧ Kd.R (Kd.int .u8) 5 w' w.heap.size (fun _ => True) v0_ r1 ∧ Below w.heap.size w w' := by
 have hu23 := Try.underlying23
 have HB := Aside0.mk (Below.refl w.heap.size w)
 have H : ((record_Check.f k a0_0 a0_1 a0_2 a0_3).bind fun t200 => (if t200 = 0 then ((pack_PutNum.f k ([] : List Int) a0_0).bind fun t201 => ((pack_PutNum.f k t201 a0_1).bind fun t204 => ((pack_PutText.f k t204 a0_2).bind fun t207 => ((pack_PutText.f k t207 a0_3).bind fun t210 => ((frame_Wrap.f k t210).bind fun t213 => ((some (([] : List Int) : List Int)).bind fun y216 => (if y216.length + t213.length < 140737488355328 then (some ((y216 ++ t213), 0)) else (none)))))))) else (some (([] : List Int), t200)))) = some (r1, r2) := h
 clear h
 replace H := Option.bind_eq_some_iff.mp H
 obtain ⟨t200, A20, H⟩ := H
 replace H : (if t200 = 0 then ((pack_PutNum.f k ([] : List Int) a0_0).bind fun t201 => ((pack_PutNum.f k t201 a0_1).bind fun t204 => ((pack_PutText.f k t204 a0_2).bind fun t207 => ((pack_PutText.f k t207 a0_3).bind fun t210 => ((frame_Wrap.f k t210).bind fun t213 => ((some (([] : List Int) : List Int)).bind fun y216 => (if y216.length + t213.length < 140737488355328 then (some ((y216 ++ t213), 0)) else (none)))))))) else (some (([] : List Int), t200))) = some (r1, r2) := H
 have A2 := Aside0.mk A20
 clear A20
 by_cases c3 : t200 = 0
 ·
  rw [if_pos c3] at H
  have c3b0 : (t200 == 0) = true := beq_iff_eq.mpr c3
  have c3b1 : (t200 != 0) = false := bne_eq_false_iff_eq.mpr c3
  clear c3
  replace H := Option.bind_eq_some_iff.mp H
  obtain ⟨t201, A40, H⟩ := H
  replace H : ((pack_PutNum.f k t201 a0_1).bind fun t204 => ((pack_PutText.f k t204 a0_2).bind fun t207 => ((pack_PutText.f k t207 a0_3).bind fun t210 => ((frame_Wrap.f k t210).bind fun t213 => ((some (([] : List Int) : List Int)).bind fun y216 => (if y216.length + t213.length < 140737488355328 then (some ((y216 ++ t213), 0)) else (none))))))) = some (r1, r2) := H
  have A4 := Aside0.mk A40
  clear A40
  replace H := Option.bind_eq_some_iff.mp H
  obtain ⟨t204, A50, H⟩ := H
  replace H : ((pack_PutText.f k t204 a0_2).bind fun t207 => ((pack_PutText.f k t207 a0_3).bind fun t210 => ((frame_Wrap.f k t210).bind fun t213 => ((some (([] : List Int) : List Int)).bind fun y216 => (if y216.length + t213.length < 140737488355328 then (some ((y216 ++ t213), 0)) else (none)))))) = some (r1, r2) := H
  have A5 := Aside0.mk A50
  clear A50
  replace H := Option.bind_eq_some_iff.mp H
  obtain ⟨t207, A60, H⟩ := H
  replace H : ((pack_PutText.f k t207 a0_3).bind fun t210 => ((frame_Wrap.f k t210).bind fun t213 => ((some (([] : List Int) : List Int)).bind fun y216 => (if y216.length + t213.length < 140737488355328 then (some ((y216 ++ t213), 0)) else (none))))) = some (r1, r2) := H
  have A6 := Aside0.mk A60
  clear A60
  replace H := Option.bind_eq_some_iff.mp H
  obtain ⟨t210, A70, H⟩ := H
  replace H : ((frame_Wrap.f k t210).bind fun t213 => ((some (([] : List Int) : List Int)).bind fun y216 => (if y216.length + t213.length < 140737488355328 then (some ((y216 ++ t213), 0)) else (none)))) = some (r1, r2) := H
  have A7 := Aside0.mk A70
  clear A70
  replace H := Option.bind_eq_some_iff.mp H
  obtain ⟨t213, A80, H⟩ := H
  replace H : ((some (([] : List Int) : List Int)).bind fun y216 => (if y216.length + t213.length < 140737488355328 then (some ((y216 ++ t213), 0)) else (none))) = some (r1, r2) := H
  have A8 := Aside0.mk A80
  clear A80
  obtain ⟨y216, hy216⟩ : ∃ y_ : List Int, y_ = (([] : List Int)) := ⟨_, rfl⟩
  replace H : (if y216.length + t213.length < 140737488355328 then (some ((y216 ++ t213), 0)) else (none)) = some (r1, r2) := by first | (rw [hy216]; with_reducible exact H) | (have H2_ := (Option.bind_some _ _).symm.trans H; rw [hy216]; with_reducible exact H2_) | (have H2_ := (Option.bind_some _ _).symm.trans H; with_reducible exact H2_) | with_reducible exact H | (rw [hy216]; exact H) | exact H
  have Ny216 := Aside0.mk hy216
  clear hy216
  by_cases c9 : y216.length + t213.length < 140737488355328
  ·
   rw [if_pos c9] at H
   have LMc9 := Aside0.mk c9
   clear c9
   obtain ⟨y219, hy219⟩ : ∃ y_ : List Int, y_ = (y216 ++ t213) := ⟨_, rfl⟩
   replace H : (some (y219, 0)) = some (r1, r2) := by first | (rw [hy219]; with_reducible exact H) | (have H2_ := (Option.bind_some _ _).symm.trans H; rw [hy219]; with_reducible exact H2_) | (have H2_ := (Option.bind_some _ _).symm.trans H; with_reducible exact H2_) | with_reducible exact H | (rw [hy219]; exact H) | exact H
   have Ny219 := Aside0.mk hy219
   clear hy219
   simp only [Option.some.injEq, Prod.mk.injEq] at H
   obtain ⟨rfl, rfl⟩ := H
   go_enter Try.func25, Try.ntmps25
   try go_wp2_with (first | ((with_reducible refine gate_dst (N := 1) rfl ?_); refine Hlp.bx (N := 1) (cs := #[.int .i64 a0_0, .int .i64 a0_1, .string a0_2, .string a0_3]) (t := 23) ?_; intro gb199 hg w10 hbox hb; have BK199 := Aside0.mk (hbox); have GW199 := Aside0.mk ((by rw [hg]; exact (below_size (Hlp.bl HB.out)) : w.heap.size ≤ gb199)); have GE199 := Aside0.mk ((by rw [hg]; exact (below_size (Hlp.bl HB.out)) : w.heap.size ≤ gb199)); replace HB := Aside0.mk (below_step (Hlp.bl HB.out) hb); clear hb hbox hg; have hcz11_0 : w10.cell? ⟨gb199, 0, none⟩ = some (.int .i64 a0_0) := (blk_cell BK199.out 0).trans rfl; have hcz11_1 : w10.cell? ⟨gb199, 1, none⟩ = some (.int .i64 a0_1) := (blk_cell BK199.out 1).trans rfl; have hcz11_2 : w10.cell? ⟨gb199, 2, none⟩ = some (.string a0_2) := (blk_cell BK199.out 2).trans rfl; have hcz11_3 : w10.cell? ⟨gb199, 3, none⟩ = some (.string a0_3) := (blk_cell BK199.out 3).trans rfl; have hfz11_0 := blk_frozen BK199.out 0; have hfz11_1 := blk_frozen BK199.out 1; have hfz11_2 := blk_frozen BK199.out 2; have hfz11_3 := blk_frozen BK199.out 3) | ((with_reducible refine gate_callee (f := 22) rfl ?_); refine Hlp.gl (some 9) Try.func22 #[.agg #[.int .i64 a0_0, .int .i64 a0_1, .string a0_2, .string a0_3]] ?_; (with_reducible refine (record_Check.calls k a0_0 a0_1 a0_2 a0_3 t200 _ A2.out).mono ?_); rintro e w12 ⟨rfl, hb⟩; refine ⟨_, rfl, ?_⟩; replace BK199 := Aside0.mk (blk_below (g := gb199) (o := .cells #[.int .i64 a0_0, .int .i64 a0_1, .string a0_2, .string a0_3] 23 (0, 0)) (Hlp.bp BK199.out) hb); replace HB := Aside0.mk (below_step (Hlp.bl HB.out) hb); (try clear hb); (try clear hb2); (try clear hk); (try clear hi)))
   replace BK199 := Aside0.mk (blk_drew BK199.out)
   replace HB := Aside0.mk (below_drew1 HB.out)
   refine start_ (n := 7) (S := fun w' => w'.cell? ⟨gb199, 0, none⟩ = some (.int .i64 a0_0) ∧ w'.cell? ⟨gb199, 1, none⟩ = some (.int .i64 a0_1) ∧ w'.cell? ⟨gb199, 2, none⟩ = some (.string a0_2) ∧ w'.cell? ⟨gb199, 3, none⟩ = some (.string a0_3)) (ds := []) #[false, false, false, false, false, false, false] (by kernel_rfl) rfl rfl ⟨(blk_cell BK199.out 0).trans rfl, (blk_cell BK199.out 1).trans rfl, (blk_cell BK199.out 2).trans rfl, (blk_cell BK199.out 3).trans rfl⟩ (fun hHeld => ?_)
   generalize w12.drew = w13 at BK199 HB hHeld ⊢
   refine pure_ (i := 0) (N := some 13) (v := ?_) (a' := ?_) #[true, false, false, false, false, false, false] rfl rfl (by kernel_rfl) (fun _ _ _ h => h) (Or.inl ⟨by rfl, ?_⟩) ?_ ?_
   rotate_left
   ·
    intro w'
    go_simp
    with_reducible rfl
   rotate_left
   ·
    simp only [Act.put, List.setIfInBounds_toArray, List.set_cons_zero, List.set_cons_succ, i64_w, i32_w]
    rfl
   refine pure_ (i := 3) (N := some 16) (v := ?_) (a' := ?_) #[true, false, false, true, false, false, false] rfl rfl (by kernel_rfl) (fun _ _ _ h => h) (Or.inl ⟨by rfl, ?_⟩) ?_ ?_
   rotate_left
   ·
    intro w'
    go_simp
    with_reducible rfl
   rotate_left
   ·
    simp only [Act.put, List.setIfInBounds_toArray, List.set_cons_zero, List.set_cons_succ, i64_w, i32_w]
    rfl
   refine take_ (i := 1) (N := some 14) (v := ?_) (a' := ?_) #[true, true, false, true, false, false, false] rfl rfl (by kernel_rfl) (fun _ _ _ h => h) (Or.inl ⟨by rfl, ?_⟩) hHeld ?_ ?_
   rotate_left
   ·
    rintro w' ⟨s0, s1, s2, s3⟩
    go_simp
    with_reducible rfl
   rotate_left
   ·
    simp only [Act.put, List.setIfInBounds_toArray, List.set_cons_zero, List.set_cons_succ, i64_w, i32_w]
    rfl
   refine take_ (i := 4) (N := some 17) (v := ?_) (a' := ?_) #[true, true, false, true, true, false, false] rfl rfl (by kernel_rfl) (fun _ _ _ h => h) (Or.inl ⟨by rfl, ?_⟩) hHeld ?_ ?_
   rotate_left
   ·
    rintro w' ⟨s0, s1, s2, s3⟩
    go_simp
    with_reducible rfl
   rotate_left
   ·
    simp only [Act.put, List.setIfInBounds_toArray, List.set_cons_zero, List.set_cons_succ, i64_w, i32_w]
    rfl
   refine one_ (i := 2) (N := some 15) #[true, true, true, true, true, false, false] rfl rfl (by kernel_rfl) (by decide) (fun K hK => ?_)
   refine goes_ Try.func64 (by kernel_rfl) rfl #[.slice none 0 0, .int .i64 a0_0] (by rfl) rfl rfl (by (try simp only [List.map_toArray, List.map_cons, List.map_nil]); first | done | rfl | (simp only [List.length_drop, List.length_take]; rfl)) ?_
   refine (pack_PutNum.calls k _ _ ([] : List Int) a0_0 t201 _ ?side1 ?side2 A4.out).mono ?_
   (case side1 => exact Kd.C_nil _ _)
   (case side2 => exact Nat.le_refl _)
   rintro e w14 ⟨v202, rfl, ho0, hb⟩
   refine ⟨_, rfl, ?_⟩
   have HO203 := Aside0.mk (Kd.R_lower ho0 (below_size (Hlp.bl HB.out)))
   replace BK199 := Aside0.mk (blk_below (g := gb199) (o := .cells #[.int .i64 a0_0, .int .i64 a0_1, .string a0_2, .string a0_3] 23 (0, 0)) (Hlp.bp BK199.out) hb)
   replace HB := Aside0.mk (below_step (Hlp.bl HB.out) hb)
   (try clear hb)
   (try clear hb2)
   (try clear hk)
   (try clear hi)
   (try clear ho0)
   obtain ⟨Ao15, co15, eo15⟩ := Kd.R_slice HO203.out
   (first | subst eo15 | (injection eo15 with f1_ f2_ f3_; have f4_ := f1_.symm; have f5_ := f3_.symm; clear f1_ f2_ f3_; subst f4_; subst f5_))
   refine hK.out _ _ ⟨(blk_cell BK199.out 0).trans rfl, (blk_cell BK199.out 1).trans rfl, (blk_cell BK199.out 2).trans rfl, (blk_cell BK199.out 3).trans rfl⟩ (fun hHeld => ?_)
   clear hK K
   refine norm_ (a' := ?_) ?_ ?_
   rotate_left
   ·
    show Act.put _ (some 15) _ = _
    simp only [Act.put, List.setIfInBounds_toArray, List.set_cons_zero, List.set_cons_succ, i64_w, i32_w]
    rfl
   refine one_ (i := 5) (N := some 18) #[true, true, true, true, true, true, false] rfl rfl (by kernel_rfl) (by decide) (fun K hK => ?_)
   refine goes_ Try.func64 (by kernel_rfl) rfl #[.slice Ao15 t201.length co15, .int .i64 a0_1] (by rfl) rfl rfl (by (try simp only [List.map_toArray, List.map_cons, List.map_nil]); first | done | rfl | (simp only [List.length_drop, List.length_take]; rfl)) ?_
   with_reducible refine (pack_PutNum.calls k _ _ t201 a0_1 t204 _ ?side1 ?side2 A5.out).mono ?_
   (case side1 => exact Hlp.cp (Kd.R_reads' HO203.out).2.2)
   (case side2 => exact (Kd.R_reads' HO203.out).2.1)
   rintro e w16 ⟨v205, rfl, ho0, hb⟩
   refine ⟨_, rfl, ?_⟩
   have HO206 := Aside0.mk (Kd.R_lower (Kd.R_new' ho0 (Kd.R_lt (Hlp.rp HO203.out))) (below_size (Hlp.bl HB.out)))
   replace HO203 := Aside0.mk (Kd.R_elder' (Hlp.rp HO203.out) (Kd.R_base ho0) hb)
   replace BK199 := Aside0.mk (blk_below (g := gb199) (o := .cells #[.int .i64 a0_0, .int .i64 a0_1, .string a0_2, .string a0_3] 23 (0, 0)) (Hlp.bp BK199.out) hb)
   replace HB := Aside0.mk (below_step (Hlp.bl HB.out) hb)
   (try clear hb)
   (try clear hb2)
   (try clear hk)
   (try clear hi)
   (try clear ho0)
   refine hK.out _ _ ⟨(blk_cell BK199.out 0).trans rfl, (blk_cell BK199.out 1).trans rfl, (blk_cell BK199.out 2).trans rfl, (blk_cell BK199.out 3).trans rfl⟩ (fun hHeld => ?_)
   clear hK K
   refine norm_ (a' := ?_) ?_ ?_
   rotate_left
   ·
    show Act.put _ (some 18) _ = _
    simp only [Act.put, List.setIfInBounds_toArray, List.set_cons_zero, List.set_cons_succ, i64_w, i32_w]
    rfl
   refine pure_ (i := 6) (N := some 5) (v := ?_) (a' := ?_) #[true, true, true, true, true, true, true] rfl rfl (by kernel_rfl) (fun _ _ _ h => h) (Or.inl ⟨by rfl, ?_⟩) ?_ ?_
   rotate_left
   ·
    intro w'
    go_simp
    with_reducible rfl
   rotate_left
   ·
    simp only [Act.put, List.setIfInBounds_toArray, List.set_cons_zero, List.set_cons_succ, i64_w, i32_w]
    rfl
   refine done_ (by kernel_rfl) ?_
   try go_wp2
   replace HO203 := Aside0.mk (Kd.R_drew HO203.out)
   replace HO206 := Aside0.mk (Kd.R_drew HO206.out)
   replace BK199 := Aside0.mk (blk_drew BK199.out)
   replace HB := Aside0.mk (below_drew1 HB.out)
   obtain ⟨Ao18, co18, eo18⟩ := Kd.R_slice HO206.out
   (first | subst eo18 | (injection eo18 with f1_ f2_ f3_; have f4_ := f1_.symm; have f5_ := f3_.symm; clear f1_ f2_ f3_; subst f4_; subst f5_))
   refine start_ (n := 9) (S := fun w' => w'.cell? ⟨gb199, 0, none⟩ = some (.int .i64 a0_0) ∧ w'.cell? ⟨gb199, 1, none⟩ = some (.int .i64 a0_1) ∧ w'.cell? ⟨gb199, 2, none⟩ = some (.string a0_2) ∧ w'.cell? ⟨gb199, 3, none⟩ = some (.string a0_3)) (ds := []) #[false, false, false, false, false, false, false, false, false] (by kernel_rfl) rfl rfl ⟨(blk_cell BK199.out 0).trans rfl, (blk_cell BK199.out 1).trans rfl, (blk_cell BK199.out 2).trans rfl, (blk_cell BK199.out 3).trans rfl⟩ (fun hHeld => ?_); refine with_tabW record_Encode.tab5 record_Encode.bits5 (fun HT_ HW_ => ?_)
   generalize w16.drew = w17 at HO203 HO206 BK199 HB hHeld ⊢
   refine pure_ (i := 0) (N := some 19) (v := ?_) (a' := ?_) #[true, false, false, false, false, false, false, false, false] rfl rfl (any_of HT_.out (by kernel_rfl)) (fun _ _ _ h => h) (Or.inl ⟨by rfl, ?_⟩) ?_ ?_
   rotate_left
   ·
    intro w'
    go_simp
    with_reducible rfl
   rotate_left
   ·
    simp only [Act.put, List.setIfInBounds_toArray, List.set_cons_zero, List.set_cons_succ, i64_w, i32_w]
    rfl
   refine pure_ (i := 1) (N := some 20) (v := ?_) (a' := ?_) #[true, true, false, false, false, false, false, false, false] rfl rfl (any_of HT_.out (by kernel_rfl)) (fun _ _ _ h => h) (Or.inl ⟨by rfl, ?_⟩) ?_ ?_
   rotate_left
   ·
    intro w'
    go_simp
    with_reducible rfl
   rotate_left
   ·
    simp only [Act.put, List.setIfInBounds_toArray, List.set_cons_zero, List.set_cons_succ, i64_w, i32_w]
    rfl
   refine pure_ (i := 4) (N := some 23) (v := ?_) (a' := ?_) #[true, true, false, false, true, false, false, false, false] rfl rfl (any_of HT_.out (by kernel_rfl)) (fun _ _ _ h => h) (Or.inl ⟨by rfl, ?_⟩) ?_ ?_
   rotate_left
   ·
    intro w'
    go_simp
    with_reducible rfl
   rotate_left
   ·
    simp only [Act.put, List.setIfInBounds_toArray, List.set_cons_zero, List.set_cons_succ, i64_w, i32_w]
    rfl
   refine take_ (i := 2) (N := some 21) (v := ?_) (a' := ?_) #[true, true, true, false, true, false, false, false, false] rfl rfl (take_ofW HT_.out HW_.out (by kernel_rfl)) (fun _ _ _ h => h) (Or.inl ⟨by rfl, ?_⟩) hHeld ?_ ?_
   rotate_left
   ·
    rintro w' ⟨s0, s1, s2, s3⟩
    go_simp
    with_reducible rfl
   rotate_left
   ·
    simp only [Act.put, List.setIfInBounds_toArray, List.set_cons_zero, List.set_cons_succ, i64_w, i32_w]
    rfl
   refine take_ (i := 5) (N := some 24) (v := ?_) (a' := ?_) #[true, true, true, false, true, true, false, false, false] rfl rfl (take_ofW HT_.out HW_.out (by kernel_rfl)) (fun _ _ _ h => h) (Or.inl ⟨by rfl, ?_⟩) hHeld ?_ ?_
   rotate_left
   ·
    rintro w' ⟨s0, s1, s2, s3⟩
    go_simp
    with_reducible rfl
   rotate_left
   ·
    simp only [Act.put, List.setIfInBounds_toArray, List.set_cons_zero, List.set_cons_succ, i64_w, i32_w]
    rfl
   refine one_ (i := 3) (N := some 22) #[true, true, true, true, true, true, false, false, false] rfl rfl (one_of HT_.out (by kernel_rfl)) (by decide) (fun K hK => ?_)
   refine goes_ Try.func66 (by kernel_rfl) rfl #[.slice Ao18 t204.length co18, .string a0_2] (by rfl) rfl rfl (by (try simp only [List.map_toArray, List.map_cons, List.map_nil]); first | done | rfl | (simp only [List.length_drop, List.length_take]; rfl)) ?_
   with_reducible refine (pack_PutText.calls k _ _ t204 a0_2 t207 _ ?side1 ?side2 A6.out).mono ?_
   (case side1 => exact Hlp.cp (Kd.R_reads' HO206.out).2.2)
   (case side2 => exact (Kd.R_reads' HO206.out).2.1)
   rintro e w19 ⟨v208, rfl, ho0, hb⟩
   refine ⟨_, rfl, ?_⟩
   have HO209 := Aside0.mk (Kd.R_lower (Kd.R_new' (Kd.R_new' ho0 (Kd.R_lt (Hlp.rp HO203.out))) (Kd.R_lt (Hlp.rp HO206.out))) (below_size (Hlp.bl HB.out)))
   replace HO203 := Aside0.mk (Kd.R_elder' (Hlp.rp HO203.out) (Kd.R_base ho0) hb)
   replace HO206 := Aside0.mk (Kd.R_elder' (Hlp.rp HO206.out) (Kd.R_base ho0) hb)
   replace BK199 := Aside0.mk (blk_below (g := gb199) (o := .cells #[.int .i64 a0_0, .int .i64 a0_1, .string a0_2, .string a0_3] 23 (0, 0)) (Hlp.bp BK199.out) hb)
   replace HB := Aside0.mk (below_step (Hlp.bl HB.out) hb)
   (try clear hb)
   (try clear hb2)
   (try clear hk)
   (try clear hi)
   (try clear ho0)
   obtain ⟨Ao20, co20, eo20⟩ := Kd.R_slice HO209.out
   (first | subst eo20 | (injection eo20 with f1_ f2_ f3_; have f4_ := f1_.symm; have f5_ := f3_.symm; clear f1_ f2_ f3_; subst f4_; subst f5_))
   refine hK.out _ _ ⟨(blk_cell BK199.out 0).trans rfl, (blk_cell BK199.out 1).trans rfl, (blk_cell BK199.out 2).trans rfl, (blk_cell BK199.out 3).trans rfl⟩ (fun hHeld => ?_)
   clear hK K
   refine norm_ (a' := ?_) ?_ ?_
   rotate_left
   ·
    show Act.put _ (some 22) _ = _
    simp only [Act.put, List.setIfInBounds_toArray, List.set_cons_zero, List.set_cons_succ, i64_w, i32_w]
    rfl
   refine one_ (i := 6) (N := some 25) #[true, true, true, true, true, true, true, false, false] rfl rfl (one_of HT_.out (by kernel_rfl)) (by decide) (fun K hK => ?_)
   refine goes_ Try.func66 (by kernel_rfl) rfl #[.slice Ao20 t207.length co20, .string a0_3] (by rfl) rfl rfl (by (try simp only [List.map_toArray, List.map_cons, List.map_nil]); first | done | rfl | (simp only [List.length_drop, List.length_take]; rfl)) ?_
   with_reducible refine (pack_PutText.calls k _ _ t207 a0_3 t210 _ ?side1 ?side2 A7.out).mono ?_
   (case side1 => exact Hlp.cp (Kd.R_reads' HO209.out).2.2)
   (case side2 => exact (Kd.R_reads' HO209.out).2.1)
   rintro e w21 ⟨v211, rfl, ho0, hb⟩
   refine ⟨_, rfl, ?_⟩
   have HO212 := Aside0.mk (Kd.R_lower (Kd.R_new' (Kd.R_new' (Kd.R_new' ho0 (Kd.R_lt (Hlp.rp HO203.out))) (Kd.R_lt (Hlp.rp HO206.out))) (Kd.R_lt (Hlp.rp HO209.out))) (below_size (Hlp.bl HB.out)))
   replace HO203 := Aside0.mk (Kd.R_elder' (Hlp.rp HO203.out) (Kd.R_base ho0) hb)
   replace HO206 := Aside0.mk (Kd.R_elder' (Hlp.rp HO206.out) (Kd.R_base ho0) hb)
   replace HO209 := Aside0.mk (Kd.R_elder' (Hlp.rp HO209.out) (Kd.R_base ho0) hb)
   replace BK199 := Aside0.mk (blk_below (g := gb199) (o := .cells #[.int .i64 a0_0, .int .i64 a0_1, .string a0_2, .string a0_3] 23 (0, 0)) (Hlp.bp BK199.out) hb)
   replace HB := Aside0.mk (below_step (Hlp.bl HB.out) hb)
   (try clear hb)
   (try clear hb2)
   (try clear hk)
   (try clear hi)
   (try clear ho0)
   obtain ⟨Ao22, co22, eo22⟩ := Kd.R_slice HO212.out
   (first | subst eo22 | (injection eo22 with f1_ f2_ f3_; have f4_ := f1_.symm; have f5_ := f3_.symm; clear f1_ f2_ f3_; subst f4_; subst f5_))
   refine hK.out _ _ ⟨(blk_cell BK199.out 0).trans rfl, (blk_cell BK199.out 1).trans rfl, (blk_cell BK199.out 2).trans rfl, (blk_cell BK199.out 3).trans rfl⟩ (fun hHeld => ?_)
   clear hK K
   refine norm_ (a' := ?_) ?_ ?_
   rotate_left
   ·
    show Act.put _ (some 25) _ = _
    simp only [Act.put, List.setIfInBounds_toArray, List.set_cons_zero, List.set_cons_succ, i64_w, i32_w]
    rfl
   refine one_ (i := 7) (N := some 26) #[true, true, true, true, true, true, true, true, false] rfl rfl (one_of HT_.out (by kernel_rfl)) (by decide) (fun K hK => ?_)
   refine goes_ Try.func65 (by kernel_rfl) rfl #[.slice Ao22 t210.length co22] (by rfl) rfl rfl (by (try simp only [List.map_toArray, List.map_cons, List.map_nil]); first | done | rfl | (simp only [List.length_drop, List.length_take]; rfl)) ?_
   with_reducible refine (frame_Wrap.calls k _ _ t210 t213 _ ?side1 ?side2 A8.out).mono ?_
   (case side1 => exact Hlp.cp (Kd.R_reads' HO212.out).2.2)
   (case side2 => exact (Kd.R_reads' HO212.out).2.1)
   rintro e w23 ⟨v214, rfl, ho0, hb⟩
   refine ⟨_, rfl, ?_⟩
   have HO215 := Aside0.mk (Kd.R_lower (Kd.R_new' (Kd.R_new' (Kd.R_new' (Kd.R_new' ho0 (Kd.R_lt (Hlp.rp HO203.out))) (Kd.R_lt (Hlp.rp HO206.out))) (Kd.R_lt (Hlp.rp HO209.out))) (Kd.R_lt (Hlp.rp HO212.out))) (below_size (Hlp.bl HB.out)))
   replace HO203 := Aside0.mk (Kd.R_elder' (Hlp.rp HO203.out) (Kd.R_base ho0) hb)
   replace HO206 := Aside0.mk (Kd.R_elder' (Hlp.rp HO206.out) (Kd.R_base ho0) hb)
   replace HO209 := Aside0.mk (Kd.R_elder' (Hlp.rp HO209.out) (Kd.R_base ho0) hb)
   replace HO212 := Aside0.mk (Kd.R_elder' (Hlp.rp HO212.out) (Kd.R_base ho0) hb)
   replace BK199 := Aside0.mk (blk_below (g := gb199) (o := .cells #[.int .i64 a0_0, .int .i64 a0_1, .string a0_2, .string a0_3] 23 (0, 0)) (Hlp.bp BK199.out) hb)
   replace HB := Aside0.mk (below_step (Hlp.bl HB.out) hb)
   (try clear hb)
   (try clear hb2)
   (try clear hk)
   (try clear hi)
   (try clear ho0)
   refine hK.out _ _ ⟨(blk_cell BK199.out 0).trans rfl, (blk_cell BK199.out 1).trans rfl, (blk_cell BK199.out 2).trans rfl, (blk_cell BK199.out 3).trans rfl⟩ (fun hHeld => ?_)
   clear hK K
   refine norm_ (a' := ?_) ?_ ?_
   rotate_left
   ·
    show Act.put _ (some 26) _ = _
    simp only [Act.put, List.setIfInBounds_toArray, List.set_cons_zero, List.set_cons_succ, i64_w, i32_w]
    rfl
   refine pure_ (i := 8) (N := some 6) (v := ?_) (a' := ?_) #[true, true, true, true, true, true, true, true, true] rfl rfl (any_of HT_.out (by kernel_rfl)) (fun _ _ _ h => h) (Or.inl ⟨by rfl, ?_⟩) ?_ ?_
   rotate_left
   ·
    intro w'
    go_simp
    with_reducible rfl
   rotate_left
   ·
    simp only [Act.put, List.setIfInBounds_toArray, List.set_cons_zero, List.set_cons_succ, i64_w, i32_w]
    rfl
   refine done_ (done_of HT_.out (by kernel_rfl)) ?_
   obtain ⟨Ao24, co24, eo24⟩ := Kd.R_slice HO215.out
   subst eo24
   try go_wp2_with (first | ((with_reducible refine gate_dst (N := 29) rfl ?_); refine Kd.R_make (Kd.int .u8) _ 5 ?hg (N := 29) ?hd 28 (.tmp 28) (.tmp 28) ?ho (((t213.length : Nat) : Int)) ?hx ?hy Try.underlying28 (.int .u8 0) 1 info5 rfl (by decide) (by decide) (0 : Int) (ok := fun _ => True) (okp := fun _ => True) ?hz (fun _ hk => hk) trivial ?h0 ?hl (Below.refl _ _) (Nat.le_refl _) ?_; (case hd => rfl); (case hg => rfl); (case ho => rfl); (case hx => first | rfl | (go_simp; done)); (case hy => first | rfl | (go_simp; done)); (case hz => exact Hlp.zero_u8 _ _ _); (case h0 => omega); (case hl => have := LMc9.out; omega); intro v217 w25 ho26 hb hg_ hnew_; clear hg_ hnew_; have HO218 := Aside0.mk (Kd.R_lower (Kd.R_new' (Kd.R_new' (Kd.R_new' (Kd.R_new' (Kd.R_new' ho26 (Kd.R_lt (Hlp.rp HO203.out))) (Kd.R_lt (Hlp.rp HO206.out))) (Kd.R_lt (Hlp.rp HO209.out))) (Kd.R_lt (Hlp.rp HO212.out))) (Kd.R_lt (Hlp.rp HO215.out))) (below_size (Hlp.bl HB.out))); replace HO203 := Aside0.mk (Kd.R_elder' (Hlp.rp HO203.out) (Kd.R_base ho26) hb); replace HO206 := Aside0.mk (Kd.R_elder' (Hlp.rp HO206.out) (Kd.R_base ho26) hb); replace HO209 := Aside0.mk (Kd.R_elder' (Hlp.rp HO209.out) (Kd.R_base ho26) hb); replace HO212 := Aside0.mk (Kd.R_elder' (Hlp.rp HO212.out) (Kd.R_base ho26) hb); replace HO215 := Aside0.mk (Kd.R_elder' (Hlp.rp HO215.out) (Kd.R_base ho26) hb); replace BK199 := Aside0.mk (blk_below (g := gb199) (o := .cells #[.int .i64 a0_0, .int .i64 a0_1, .string a0_2, .string a0_3] 23 (0, 0)) (Hlp.bp BK199.out) hb); replace HB := Aside0.mk (below_step (Hlp.bl HB.out) hb); clear hb ho26) | ((with_reducible refine gate_builtin (b := .copy) (xs := #[.tmp 30, .tmp 31]) rfl ?_); refine Kd.R_copy (enc := Value.int .u8) (h1 := fun _ => rfl) (0 : Int) (w0 := w) w.heap.size rfl (.tmp 30) (.tmp 31) 28 28 5 rfl Try.underlying28 ?gi v217 (List.replicate (((t213.length : Nat) : Int)).toNat (0 : Int)) t213 _ _ _ (fun _ => True) rfl rfl ?gO ?aR ?gB ?gb ?_; (case gi => kernel_rfl); (case aR => exact Hlp.cp (Kd.R_reads' HO215.out).2.2); (case gO => exact Kd.R_mono HO218.out (fun _ _ => trivial)); (case gB => exact HB.out); (case gb => exact HB.out.size); intro w27 ho hb hg; rw [Hlp.copied t213 t213.length (((t213.length : Nat) : Int)).toNat rfl rfl, show t213 = y219 from (by rw [Ny219.out, Ny216.out]; rfl)] at ho; have n0_ := Aside0.mk (hb); have n1_ := Aside0.mk (ho); clear HB; clear HO218; have HB := n0_; have HO221 := n1_; clear n0_ n1_; clear ho hb hg))
   go_ret2
   exact ⟨_, by first | rfl | (simp [errW_none, errW_some] <;> rfl) | (simp [*, errW_none, errW_some] <;> rfl), by (with_reducible repeat (first | apply Kd.R_alloc | apply Kd.R_drewN | apply Kd.R_drew)); exact Kd.R_mono HO221.out (fun _ hk => trivial), Hlp.bl HB.out⟩
  ·
   rw [if_neg c9] at H
   exact absurd H (by simp)
 ·
  rw [if_neg c3] at H
  have c3b0 : (t200 == 0) = false := beq_eq_false_iff_ne.mpr c3
  have c3b1 : (t200 != 0) = true := bne_iff_ne.mpr c3
  simp only [Option.some.injEq, Prod.mk.injEq] at H
  obtain ⟨rfl, rfl⟩ := H
  go_enter Try.func25, Try.ntmps25
  go_wp2_with (first | ((with_reducible refine gate_dst (N := 1) rfl ?_); refine Hlp.bx (N := 1) (cs := #[.int .i64 a0_0, .int .i64 a0_1, .string a0_2, .string a0_3]) (t := 23) ?_; intro gb199 hg w28 hbox hb; have BK199 := Aside0.mk (hbox); have GW199 := Aside0.mk ((by rw [hg]; exact (below_size (Hlp.bl HB.out)) : w.heap.size ≤ gb199)); have GE199 := Aside0.mk ((by rw [hg]; exact (below_size (Hlp.bl HB.out)) : w.heap.size ≤ gb199)); replace HB := Aside0.mk (below_step (Hlp.bl HB.out) hb); clear hb hbox hg; have hcz29_0 : w28.cell? ⟨gb199, 0, none⟩ = some (.int .i64 a0_0) := (blk_cell BK199.out 0).trans rfl; have hcz29_1 : w28.cell? ⟨gb199, 1, none⟩ = some (.int .i64 a0_1) := (blk_cell BK199.out 1).trans rfl; have hcz29_2 : w28.cell? ⟨gb199, 2, none⟩ = some (.string a0_2) := (blk_cell BK199.out 2).trans rfl; have hcz29_3 : w28.cell? ⟨gb199, 3, none⟩ = some (.string a0_3) := (blk_cell BK199.out 3).trans rfl; have hfz29_0 := blk_frozen BK199.out 0; have hfz29_1 := blk_frozen BK199.out 1; have hfz29_2 := blk_frozen BK199.out 2; have hfz29_3 := blk_frozen BK199.out 3) | ((with_reducible refine gate_callee (f := 22) rfl ?_); refine Hlp.gl (some 9) Try.func22 #[.agg #[.int .i64 a0_0, .int .i64 a0_1, .string a0_2, .string a0_3]] ?_; (with_reducible refine (record_Check.calls k a0_0 a0_1 a0_2 a0_3 t200 _ A2.out).mono ?_); rintro e w30 ⟨rfl, hb⟩; refine ⟨_, rfl, ?_⟩; replace BK199 := Aside0.mk (blk_below (g := gb199) (o := .cells #[.int .i64 a0_0, .int .i64 a0_1, .string a0_2, .string a0_3] 23 (0, 0)) (Hlp.bp BK199.out) hb); replace HB := Aside0.mk (below_step (Hlp.bl HB.out) hb); (try clear hb); (try clear hb2); (try clear hk); (try clear hi)))
  go_ret2
  exact ⟨_, by first | rfl | (simp [errW_none, errW_some] <;> rfl) | (simp [*, errW_none, errW_some] <;> rfl), by first | exact Kd.R_nil _ _ _ _ _ | exact Kd.N_nil _ _ _ _ _ | exact Kd.V_nil _ _ _ _ _ | exact Kd.Q_nil _ _ _ _ _ | exact Kd.S_nil _ _ _ _ _, Hlp.bl HB.out⟩

end Go.Proofs.Ytkkelbakadbbhaa.J
