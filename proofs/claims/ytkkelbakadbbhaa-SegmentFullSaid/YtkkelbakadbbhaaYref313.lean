/- Lean functions that compute what the Go functions named below compute; each theorem '.calls': if its Lean function has an answer, the Go function returns it. -/
import Derived.Test.YtkkelbakadbbhaaYx0
import Derived.Test.YtkkelbakadbbhaaH
import Derived.Test.YtkkelbakadbbhaaYref311
namespace Go.Proofs.Ytkkelbakadbbhaa.J
open Go.RowKit Go.Proofs.YtkkelbakadbbhaaW.PrintWords Go.Proofs.YtkkelbakadbbhaaW.PrintLast Go.Proofs.YtkkelbakadbbhaaW.PrintMore
attribute [local go_sem] max2_int min2_int max_two min_two max_three min_three max_four min_four   -- for this text's walks alone
set_option linter.unusedVariables false
set_option linter.unusedSimpArgs false

/-! ### brokerref31_Size: function 63 -/
def brokerref31_Size.f (k : Nat) (a0_0 : Int) (a0_1 : Int) (a0_2 : ByteArray) (a0_3 : ByteArray) : Option (Int) := (brokerref31_Encode.f k a0_0 a0_1 a0_2 a0_3).bind fun bt598 => (some (bt598.1.length : Int))
theorem brokerref31_Size.mono : ∀ a0 a1 a2 a3 k, LeO (brokerref31_Size.f k a0 a1 a2 a3) (brokerref31_Size.f (k + 1) a0 a1 a2 a3) := by
 intro a0 a1 a2 a3 k
 unfold brokerref31_Size.f
 repeat' first
  | (with_reducible exact brokerref31_Encode.mono _ _ _ _ _)
  | (with_reducible exact LeO.refl _)
  | (with_reducible exact LeO.none _)
  | (with_reducible refine LeO.ite ?_ ?_)
  | (with_reducible refine LeO.bind ?_ (fun _ => ?_))
  | exact brokerref31_Encode.mono _ _ _ _ _
  | exact LeO.none _
  | refine LeO.ite ?_ ?_
  | refine LeO.bind ?_ (fun _ => ?_)
set_option maxHeartbeats 8000000 in
set_option maxRecDepth 100000 in
theorem brokerref31_Size.calls (k : Nat) (a0_0 : Int) (a0_1 : Int) (a0_2 : ByteArray) (a0_3 : ByteArray) (r : Int) (w : World) (h : brokerref31_Size.f k a0_0 a0_1 a0_2 a0_3 = some r) :
 Calls Try.prog 63 #[.agg #[.int .i64 a0_0, .int .i64 a0_1, .string a0_2, .string a0_3]] w fun e w' => e = .returned (.int .i64 r) ∧ Below w.heap.size w w' := by
 have hu23 := Try.underlying23
 have HB := Aside0.mk (Below.refl w.heap.size w)
 have H : ((brokerref31_Encode.f k a0_0 a0_1 a0_2 a0_3).bind fun bt598 => (some (bt598.1.length : Int))) = some r := h
 clear h
 replace H := Option.bind_eq_some_iff.mp H
 obtain ⟨⟨t598, t601⟩, A20, H⟩ := H
 replace H : (some (t598.length : Int)) = some r := H
 have A2 := Aside0.mk A20
 clear A20
 obtain rfl := Option.some.inj H
 go_enter Try.func63, Try.ntmps63
 go_wp2_with (first | ((with_reducible refine gate_dst (N := 1) rfl ?_); refine Hlp.bx (N := 1) (cs := #[.int .i64 a0_0, .int .i64 a0_1, .string a0_2, .string a0_3]) (t := 23) ?_; intro gb597 hg w3 hbox hb; have BK597 := Aside0.mk (hbox); have GW597 := Aside0.mk ((by rw [hg]; exact (below_size (Hlp.bl HB.out)) : w.heap.size ≤ gb597)); have GE597 := Aside0.mk ((by rw [hg]; exact (below_size (Hlp.bl HB.out)) : w.heap.size ≤ gb597)); replace HB := Aside0.mk (below_step (Hlp.bl HB.out) hb); clear hb hbox hg; have hcz4_0 : w3.cell? ⟨gb597, 0, none⟩ = some (.int .i64 a0_0) := (blk_cell BK597.out 0).trans rfl; have hcz4_1 : w3.cell? ⟨gb597, 1, none⟩ = some (.int .i64 a0_1) := (blk_cell BK597.out 1).trans rfl; have hcz4_2 : w3.cell? ⟨gb597, 2, none⟩ = some (.string a0_2) := (blk_cell BK597.out 2).trans rfl; have hcz4_3 : w3.cell? ⟨gb597, 3, none⟩ = some (.string a0_3) := (blk_cell BK597.out 3).trans rfl; have hfz4_0 := blk_frozen BK597.out 0; have hfz4_1 := blk_frozen BK597.out 1; have hfz4_2 := blk_frozen BK597.out 2; have hfz4_3 := blk_frozen BK597.out 3) | ((with_reducible refine gate_callee (f := 26) rfl ?_); refine Hlp.gl (some 7) Try.func26 #[.agg #[.int .i64 a0_0, .int .i64 a0_1, .string a0_2, .string a0_3]] ?_; (with_reducible refine (brokerref31_Encode.calls k a0_0 a0_1 a0_2 a0_3 t598 t601 _ A2.out).mono ?_); rintro e w5 ⟨v599, rfl, ho0, hb⟩; refine ⟨_, rfl, ?_⟩; have HO600 := Aside0.mk (Kd.R_lower ho0 (below_size (Hlp.bl HB.out))); replace BK597 := Aside0.mk (blk_below (g := gb597) (o := .cells #[.int .i64 a0_0, .int .i64 a0_1, .string a0_2, .string a0_3] 23 (0, 0)) (Hlp.bp BK597.out) hb); replace HB := Aside0.mk (below_step (Hlp.bl HB.out) hb); (try clear hb); (try clear hb2); (try clear hk); (try clear hi); (try clear ho0); obtain ⟨Ao6, co6, eo6⟩ := Kd.R_slice HO600.out; subst eo6))
 go_ret
 exact ⟨by first | rfl | (simp [errW_none, errW_some] <;> rfl) | (simp [*, errW_none, errW_some] <;> rfl), Hlp.bl HB.out⟩

end Go.Proofs.Ytkkelbakadbbhaa.J
