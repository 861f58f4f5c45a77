/- Lean functions that compute what the Go functions named below compute; each theorem '.calls': if its Lean function has an answer, the Go function returns it. -/
import Derived.Test.YtkkelbakadbbhaaYx0
import Derived.Test.YtkkelbakadbbhaaH
namespace Go.Proofs.Ytkkelbakadbbhaa.J
open Go.RowKit Go.Proofs.YtkkelbakadbbhaaW.PrintWords Go.Proofs.YtkkelbakadbbhaaW.PrintLast Go.Proofs.YtkkelbakadbbhaaW.PrintMore
attribute [local go_sem] max2_int min2_int max_two min_two max_three min_three max_four min_four   -- for this text's walks alone
set_option linter.unusedVariables false
set_option linter.unusedSimpArgs false

/-! ### brokerref32_New: function 52 -/
def brokerref32_New.f (a0 : Int) : Option (Int × Int × List Int) := some (a0, a0, ([] : List Int))
set_option maxHeartbeats 8000000 in
set_option maxRecDepth 100000 in
theorem brokerref32_New.calls (a0 : Int) (r1 : Int) (r2 : Int) (r3 : List Int) (w : World) (h : brokerref32_New.f a0 = some (r1, r2, r3)) :
 Calls Try.prog 52 #[.int .i64 a0] w fun e w' => ∃ v2_ : Value, e = .returned (.agg #[.int .i64 r1, .int .i64 r2, v2_]) ∧ Kd.R (Kd.int .u8) 5 w' w.heap.size (fun _ => True) v2_ r3 ∧ Below w.heap.size w w' := by
 have hu43 := Try.underlying43
 have HB := Aside0.mk (Below.refl w.heap.size w)
 have H : (some (a0, a0, ([] : List Int))) = some (r1, r2, r3) := h
 clear h
 simp only [Option.some.injEq, Prod.mk.injEq] at H
 obtain ⟨rfl, rfl, rfl⟩ := H
 go_enter Try.func52, Try.ntmps52
 go_wp2_with (first | ((with_reducible refine gate_dst (N := 2) rfl ?_); refine Hlp.bx (N := 2) (cs := #[.int .i64 0, .int .i64 0, .slice none 0 0]) (t := 43) ?_; intro gb515 hg w2 hbox hb; have BK515 := Aside0.mk (hbox); have GW515 := Aside0.mk ((by rw [hg]; exact (below_size (Hlp.bl HB.out)) : w.heap.size ≤ gb515)); have GE515 := Aside0.mk ((by rw [hg]; exact (below_size (Hlp.bl HB.out)) : w.heap.size ≤ gb515)); replace HB := Aside0.mk (below_step (Hlp.bl HB.out) hb); clear hb hbox hg; have hcz3_0 : w2.cell? ⟨gb515, 0, none⟩ = some (.int .i64 0) := (blk_cell BK515.out 0).trans rfl; have hcz3_1 : w2.cell? ⟨gb515, 1, none⟩ = some (.int .i64 0) := (blk_cell BK515.out 1).trans rfl; have hcz3_2 : w2.cell? ⟨gb515, 2, none⟩ = some (.slice none 0 0) := (blk_cell BK515.out 2).trans rfl; have hfz3_0 := blk_frozen BK515.out 0; have hfz3_1 := blk_frozen BK515.out 1; have hfz3_2 := blk_frozen BK515.out 2))
 refine bodyPost_ret (results_cell_row rfl _ _ gb515 43 #[.int .i64 a0, .int .i64 a0, .slice none 0 0] (0, 0) _ rfl (by refine Hlp.bp (blk_put (cs := #[.int .i64 a0, .int .i64 a0, .slice none 0 0]) ?_ 2 _ rfl); refine Hlp.bp (blk_put (cs := #[.int .i64 a0, .int .i64 0, .slice none 0 0]) ?_ 1 _ rfl); refine Hlp.bp (blk_put (cs := #[.int .i64 0, .int .i64 0, .slice none 0 0]) ?_ 0 _ rfl); exact Hlp.bp BK515.out) Try.underlying43 rfl (by kernel_rfl)) rfl ?_
 exact ⟨_, by first | rfl | (simp [errW_none, errW_some] <;> rfl) | (simp [*, errW_none, errW_some] <;> rfl), by first | exact Kd.R_nil _ _ _ _ _ | exact Kd.N_nil _ _ _ _ _ | exact Kd.V_nil _ _ _ _ _ | exact Kd.Q_nil _ _ _ _ _ | exact Kd.S_nil _ _ _ _ _, Hlp.bl HB.out⟩

end Go.Proofs.Ytkkelbakadbbhaa.J
