/- Lean functions that compute what the Go functions named below compute; each theorem '.calls': if its Lean function has an answer, the Go function returns it. -/
import Derived.Test.YtkkelbakadbbhaaYx0
import Derived.Test.YtkkelbakadbbhaaH
import Derived.Test.YtkkelbakadbbhaaYpack0
namespace Go.Proofs.Ytkkelbakadbbhaa.J
open Go.RowKit Go.Proofs.YtkkelbakadbbhaaW.PrintWords Go.Proofs.YtkkelbakadbbhaaW.PrintLast Go.Proofs.YtkkelbakadbbhaaW.PrintMore
attribute [local go_sem] max2_int min2_int max_two min_two max_three min_three max_four min_four   -- for this text's walks alone
set_option linter.unusedVariables false
set_option linter.unusedSimpArgs false

/-! ### pack_code: function 88 -/
def pack_code.f (a0 : Int) : Option (Int) := some (Go.bits .xor .u64 (IntKind.u64.wrap ((IntKind.u64.wrap (a0)) * 2)) (IntKind.u64.wrap (a0 / 9223372036854775808)))
set_option maxHeartbeats 8000000 in
set_option maxRecDepth 100000 in
theorem pack_code.calls (a0 : Int) (r : Int) (w : World) (h : pack_code.f a0 = some r) :
 Calls Try.prog 88 #[.int .i64 a0] w fun e w' => e = .returned (.int .u64 r) ∧ Drawn0 w w' := by
 have H : (some (Go.bits .xor .u64 (IntKind.u64.wrap ((IntKind.u64.wrap (a0)) * 2)) (IntKind.u64.wrap (a0 / 9223372036854775808)))) = some r := h
 clear h
 obtain rfl := Option.some.inj H
 go_enter Try.func88, Try.ntmps88
 go_wp2
 go_ret
 exact ⟨by first | rfl | (simp; done) | (simp [*]; done), by repeat (first | exact Drawn0.refl _ | apply Drawn0.step)⟩


/-! ### pack_add: function 79 -/
def pack_add.l0 : Nat → List Int → Int → Option (List Int)
 | 0, _, _ => none
 | k + 1, x0, x5 => if x5 > 127 then (if x0.length < 140737488355328 then (pack_add.l0 k (x0 ++ [Go.bits .or .u8 ((Go.bits .and .u64 x5 127) % 256) 128]) (x5 / 128)) else (none)) else (if x0.length < 140737488355328 then (some (x0 ++ [(x5) % 256])) else (none))
def pack_add.f (k : Nat) (l0 : List Int) (a1 : Int) : Option (List Int) := (pack_code.f a1).bind fun t104 => (pack_add.l0 k l0 t104)
theorem pack_add.mono_l : ∀ k, (∀ y0 y1, LeO (pack_add.l0 k y0 y1) (pack_add.l0 (k + 1) y0 y1))
 | 0 => fun _ _ r h => by simp [pack_add.l0] at h
 | k + 1 => by
  have ih0 := pack_add.mono_l k
  ·
   intro y0 y1
   unfold pack_add.l0
   repeat' first
   | (with_reducible exact ih0 _ _)
   | (with_reducible exact LeO.refl _)
   | (with_reducible exact LeO.none _)
   | (with_reducible refine LeO.ite ?_ ?_)
   | (with_reducible refine LeO.bind ?_ (fun _ => ?_))
   | exact ih0 _ _
   | exact LeO.none _
   | refine LeO.ite ?_ ?_
   | refine LeO.bind ?_ (fun _ => ?_)
theorem pack_add.mono : ∀ a0 a1 k, LeO (pack_add.f k a0 a1) (pack_add.f (k + 1) a0 a1) := by
 intro a0 a1 k
 have ih0 := pack_add.mono_l k
 unfold pack_add.f
 repeat' first
  | (with_reducible exact ih0 _ _)
  | (with_reducible exact LeO.refl _)
  | (with_reducible exact LeO.none _)
  | (with_reducible refine LeO.ite ?_ ?_)
  | (with_reducible refine LeO.bind ?_ (fun _ => ?_))
  | exact ih0 _ _
  | exact LeO.none _
  | refine LeO.ite ?_ ?_
  | refine LeO.bind ?_ (fun _ => ?_)
set_option maxHeartbeats 8000000 in
set_option maxRecDepth 100000 in
theorem pack_add.calls (k : Nat) (P0_ : Nat → Prop) (u9000_ : Value) (l0 : List Int) (a1 : Int) (r : List Int) (w0 w : World) (hB : Below w0.heap.size w0 w) (ho0 : Kd.R (Kd.int .u8) 5 w w0.heap.size P0_ u9000_ l0) (h : pack_add.f k l0 a1 = some r) :
 Calls Try.prog 79 #[u9000_, .int .i64 a1] w fun e w' => ∃ v0_ : Value, e = .returned (v0_) ∧ Kd.R (Kd.int .u8) 5 w' w0.heap.size (fun k_ => (P0_ k_ ∨ w.heap.size ≤ k_)) v0_ r ∧ Below w0.heap.size w0 w' ∧ Kept w w' (fun k_ => P0_ k_) := by
 have HO0 := Aside0.mk (show Kd.R (Kd.int .u8) 5 w w0.heap.size (fun k_ => (P0_ k_ ∨ w.heap.size ≤ k_)) u9000_ l0 from Kd.R_mono ho0 (fun k_ hk => (.inl hk)))
 have HK := Aside0.mk (Kept.refl w (fun k_ => P0_ k_))
 have HW0 := Aside0.mk hB.size
 have HB := Aside0.mk hB
 clear hB
 have H : ((pack_code.f a1).bind fun t104 => (pack_add.l0 k l0 t104)) = some r := h
 clear h
 replace H := Option.bind_eq_some_iff.mp H
 obtain ⟨t104, A30, H⟩ := H
 replace H : (pack_add.l0 k l0 t104) = some r := H
 have A3 := Aside0.mk A30
 clear A30
 have H' := Aside0.mk H
 clear H
 go_enter Try.func79, Try.ntmps79
 go_wp2_with (first | ((with_reducible refine gate_callee (f := 88) rfl ?_); refine Hlp.gl (some 7) Try.func88 #[.int .i64 a1] ?_; (with_reducible refine (pack_code.calls a1 t104 _ A3.out).mono ?_); rintro e w' ⟨rfl, ⟨nd, rfl⟩⟩; refine ⟨_, rfl, ?_⟩))
 go_loopg [0, 5] k (fun kq v0 v5 w' => ∃ (x0_1 : List Int) (x5_1 : Int), v5 = .int .u64 x5_1 ∧ Aside0 (pack_add.l0 kq x0_1 x5_1 = some r) ∧ Aside0 (kq ≤ k) ∧ Aside0 (Kd.R (Kd.int .u8) 5 w' w0.heap.size (fun k_ => (P0_ k_ ∨ w.heap.size ≤ k_)) v0 x0_1) ∧ Aside0 (Kept w w' (fun k_ => P0_ k_)) ∧ Aside0 (Below w0.heap.size w0 w'))
 case atStart => exact ⟨(l0), (t104), (by first | rfl | (simp; done) | (simp [*]; done)), H', ⟨Nat.le_refl _⟩, ⟨by (with_reducible repeat (first | apply Kd.R_alloc | apply Kd.R_drewN | apply Kd.R_drew)); exact HO0.out⟩, ⟨by repeat (first | (with_reducible first | exact HK.out | apply Kept.alloc | apply Kept.drewN | apply Kept.drew) | exact HK.out)⟩, ⟨Hlp.bl HB.out⟩⟩
 case round =>
  clear H'
  try clear p2
  obtain ⟨x0_1, x5_1, rfl, HA, HK1, HO_0, HK, HB⟩ := hrel
  cases gk with
  | zero => exact absurd HA.out (by simp [pack_add.l0])
  | succ k1 =>
   have H := HA.out
   clear HA
   simp only [pack_add.l0] at H
   by_cases c4 : x5_1 > 127
   ·
    rw [if_pos c4] at H
    have c4b0 : decide (127 < x5_1) = true := decide_eq_true c4
    clear c4
    by_cases c5 : x0_1.length < 140737488355328
    ·
     rw [if_pos c5] at H
     have LMc5 := Aside0.mk c5
     clear c5
     obtain ⟨y105, hy105⟩ : ∃ y_ : List Int, y_ = (x0_1 ++ [Go.bits .or .u8 ((Go.bits .and .u64 x5_1 127) % 256) 128]) := ⟨_, rfl⟩
     replace H : (pack_add.l0 k1 y105 (x5_1 / 128)) = some r := by first | (rw [hy105]; with_reducible exact H) | (have H2_ := (Option.bind_some _ _).symm.trans H; rw [hy105]; with_reducible exact H2_) | (have H2_ := (Option.bind_some _ _).symm.trans H; with_reducible exact H2_) | with_reducible exact H | (rw [hy105]; exact H) | exact H
     have Ny105 := Aside0.mk hy105
     clear hy105
     have H' := Aside0.mk H
     clear H
     go_wp2_with (first | ((with_reducible refine gate_builtin (b := .append) (xs := #[.tmp 10, .tmp 15]) rfl ?_); at_builtin; refine Kd.R_append (Kd.int .u8) (w0 := w0) w0.heap.size rfl (.tmp 10) (.tmp 15) 28 5 (.int .u8 0) 1 rfl Try.underlying28 info5 rfl (by decide) (by omega) u0 x0_1 (Go.bits .or .u8 ((Go.bits .and .u64 x5_1 127) % 256) 128) [.int .u8 (Go.bits .or .u8 ((Go.bits .and .u64 x5_1 127) % 256) 128)] (fun k_ => (P0_ k_ ∨ w.heap.size ≤ k_)) (fun _ => False) rfl rfl ?aP (fun _ hk => hk.elim) ?aF ?aO ?aB ?aS ?aL ?_; (case aP => exact rfl); (case aB => exact (Hlp.bl HB.out)); (case aF => exact (fun k_ hk => (.inr (Nat.le_trans (by first | exact HK.out.1 | exact (show Kept w _ (fun k_ => P0_ k_) from by repeat (first | (with_reducible first | exact HK.out | apply Kept.alloc | apply Kept.drewN | apply Kept.drew) | exact HK.out)).1) hk)))); (case aO => exact (Hlp.rp HO_0.out)); (case aS => exact (below_size (Hlp.bl HB.out))); (case aL => have := LMc5.out; omega); intro v106 w6 ho hb hg hat; rw [← Ny105.out] at ho; have n0_ := Aside0.mk (hb); have n1_ := Aside0.mk (Kept.of_grown (S := (fun k_ => P0_ k_)) hg (by repeat (first | (with_reducible first | exact HK.out | apply Kept.alloc | apply Kept.drewN | apply Kept.drew) | exact HK.out)) (fun k_ e_ => (HO_0.out.1 k_ e_))); have n2_ := Aside0.mk (ho); clear HB; clear HK; clear HO_0; have HB := n0_; have HK := n1_; have HO107 := n2_; clear n0_ n1_ n2_; clear ho hb hg hat))
     go_roundg k1
     case measure => have := HK1.out; omega
     case rel => exact ⟨(y105), (x5_1 / 128), (by first | rfl | (simp; done) | (simp [*]; done)), H', ⟨by have := HK1.out; omega⟩, ⟨by (with_reducible repeat (first | apply Kd.R_alloc | apply Kd.R_drewN | apply Kd.R_drew)); exact HO107.out⟩, ⟨by repeat (first | (with_reducible first | exact HK.out | apply Kept.alloc | apply Kept.drewN | apply Kept.drew) | exact HK.out)⟩, ⟨Hlp.bl HB.out⟩⟩
    ·
     rw [if_neg c5] at H
     exact absurd H (by simp)
   ·
    rw [if_neg c4] at H
    have c4b0 : decide (127 < x5_1) = false := decide_eq_false c4
    clear c4
    by_cases c7 : x0_1.length < 140737488355328
    ·
     rw [if_pos c7] at H
     have LMc7 := Aside0.mk c7
     clear c7
     obtain ⟨y108, hy108⟩ : ∃ y_ : List Int, y_ = (x0_1 ++ [(x5_1) % 256]) := ⟨_, rfl⟩
     replace H : (some y108) = some r := by first | (rw [hy108]; with_reducible exact H) | (have H2_ := (Option.bind_some _ _).symm.trans H; rw [hy108]; with_reducible exact H2_) | (have H2_ := (Option.bind_some _ _).symm.trans H; with_reducible exact H2_) | with_reducible exact H | (rw [hy108]; exact H) | exact H
     have Ny108 := Aside0.mk hy108
     clear hy108
     obtain rfl := Option.some.inj H
     go_wp2_with (first | ((with_reducible refine gate_builtin (b := .append) (xs := #[.tmp 19, .tmp 22]) rfl ?_); at_builtin; refine Kd.R_append (Kd.int .u8) (w0 := w0) w0.heap.size rfl (.tmp 19) (.tmp 22) 28 5 (.int .u8 0) 1 rfl Try.underlying28 info5 rfl (by decide) (by omega) u0 x0_1 ((x5_1) % 256) [.int .u8 ((x5_1) % 256)] (fun k_ => (P0_ k_ ∨ w.heap.size ≤ k_)) (fun _ => False) rfl rfl ?aP (fun _ hk => hk.elim) ?aF ?aO ?aB ?aS ?aL ?_; (case aP => exact rfl); (case aB => exact (Hlp.bl HB.out)); (case aF => exact (fun k_ hk => (.inr (Nat.le_trans (by first | exact HK.out.1 | exact (show Kept w _ (fun k_ => P0_ k_) from by repeat (first | (with_reducible first | exact HK.out | apply Kept.alloc | apply Kept.drewN | apply Kept.drew) | exact HK.out)).1) hk)))); (case aO => exact (Hlp.rp HO_0.out)); (case aS => exact (below_size (Hlp.bl HB.out))); (case aL => have := LMc7.out; omega); intro v109 w8 ho hb hg hat; rw [← Ny108.out] at ho; have n0_ := Aside0.mk (hb); have n1_ := Aside0.mk (Kept.of_grown (S := (fun k_ => P0_ k_)) hg (by repeat (first | (with_reducible first | exact HK.out | apply Kept.alloc | apply Kept.drewN | apply Kept.drew) | exact HK.out)) (fun k_ e_ => (HO_0.out.1 k_ e_))); have n2_ := Aside0.mk (ho); clear HB; clear HK; clear HO_0; have HB := n0_; have HK := n1_; have HO110 := n2_; clear n0_ n1_ n2_; clear ho hb hg hat))
     go_ret
     exact ⟨_, by first | rfl | (simp [errW_none, errW_some] <;> rfl) | (simp [*, errW_none, errW_some] <;> rfl), by (with_reducible repeat (first | apply Kd.R_alloc | apply Kd.R_drewN | apply Kd.R_drew)); exact HO110.out, by repeat (first | (with_reducible first | exact HB.out | apply below_alloc | apply pw_below_drewN | apply below_drew1) | exact HB.out), by repeat (first | (with_reducible first | exact HK.out | apply Kept.alloc | apply Kept.drewN | apply Kept.drew) | exact HK.out)⟩
    ·
     rw [if_neg c7] at H
     exact absurd H (by simp)


/-! ### pack_owned: function 80 -/
def pack_owned.f (l0 : List Int) (a1 : Int) : Option (List Int) := if 0 ≤ a1 then (if (l0.length : Int) + a1 ≤ 140737488355328 then (some l0) else (none)) else (none)
theorem pack_owned.take_all (l0 : List Int) (n : Int) (h : n = (l0.length : Int)) : l0.take (min l0.length (List.replicate n.toNat (0 : Int)).length) ++ (List.replicate n.toNat (0 : Int)).drop (min l0.length (List.replicate n.toNat (0 : Int)).length) = l0 := by
 subst h; simp
set_option maxHeartbeats 8000000 in
set_option maxRecDepth 100000 in
theorem pack_owned.calls (A0 : Option Addr) (c0 : Nat) (l0 : List Int) (a1 : Int) (r : List Int) (w : World) (hr0 : Kd.C (Kd.int .u8) w A0 l0.length l0) (hc0 : l0.length ≤ c0) (h : pack_owned.f l0 a1 = some r) :
 Calls Try.prog 80 #[.slice A0 l0.length c0, .int .i64 a1] w fun e w' => ∃ v0_ : Value, e = .returned (v0_) ∧ Kd.R (Kd.int .u8) 5 w' w.heap.size (fun _ => True) v0_ r ∧ Below w.heap.size w w' := by
 have HR0 := Aside0.mk hr0
 have HC0 := Aside0.mk hc0
 clear hr0 hc0
 have HB := Aside0.mk (Below.refl w.heap.size w)
 unfold pack_owned.f at h
 by_cases c1 : 0 ≤ a1
 ·
  rw [if_pos c1] at h
  by_cases c2 : (l0.length : Int) + a1 ≤ 140737488355328
  ·
   rw [if_pos c2] at h
   obtain rfl := Option.some.inj h
   clear h
   go_enter Try.func80, Try.ntmps80
   go_wp2_with (first | ((with_reducible refine gate_dst (N := 12) rfl ?_); refine Hlp.R_make_cap (Kd.int .u8) (w0 := w) w.heap.size 5 ?hg (N := 12) ?hd 28 (.tmp 7) (.tmp 11) ?ho ((l0.length : Nat) : Int) (((l0.length : Nat) : Int) + a1) ?hx ?hy Try.underlying28 (.int .u8 0) 1 info5 rfl (by decide) (by decide) 0 (ok := fun _ => True) (okp := fun _ => True) ?hz (fun _ hk => hk) trivial ?h0 ?hn ?hl ?hB (Nat.le_refl _) ?_; (case hd => rfl); (case hg => rfl); (case ho => rfl); (case hx => first | rfl | (go_simp; done)); (case hy => first | rfl | (go_simp; done)); (case hz => exact Hlp.zero_u8 _ _ _); (case h0 => omega); (case hn => omega); (case hl => omega); (case hB => exact Below.refl _ _); intro v109 w4 ho5 hb hg_ hnew_; clear hg_ hnew_; have HO110 := Aside0.mk ho5; clear HB; have HB := Aside0.mk hb; clear hb ho5) | ((with_reducible refine gate_builtin (b := .copy) (xs := #[.tmp 13, .tmp 14]) rfl ?_); refine Kd.R_copy (enc := Value.int .u8) (h1 := fun _ => rfl) (0 : Int) (w0 := w) w.heap.size ?gg (.tmp 13) (.tmp 14) 28 28 5 ?go Try.underlying28 ?gi v109 (List.replicate ((l0.length : Nat) : Int).toNat (0 : Int)) l0 A0 l0.length c0 (fun _ => True) ?gs ?gx ?gO ?gR ?gB ?gb ?_; (case gg => rfl); (case go => rfl); (case gi => kernel_rfl); (case gs => rfl); (case gx => rfl); (case gO => exact HO110.out); (case gR => exact (Kd.C_below HR0.out HB.out)); (case gB => exact HB.out); (case gb => exact HB.out.size); intro w5 ho hb hg_; rw [pack_owned.take_all l0 _ rfl] at ho; clear hg_; clear HB HO110; have HB := Aside0.mk hb; have HO113 := Aside0.mk ho; clear hb ho))
   go_ret
   exact ⟨_, by first | rfl | (simp [errW_none, errW_some] <;> rfl) | (simp [*, errW_none, errW_some] <;> rfl), by (with_reducible repeat (first | apply Kd.R_alloc | apply Kd.R_drewN | apply Kd.R_drew)); exact HO113.out, Hlp.bl HB.out⟩
  ·
   rw [if_neg c2] at h
   exact absurd h (by simp)
 ·
  rw [if_neg c1] at h
  exact absurd h (by simp)


/-! ### pack_PutNum: function 64 -/
def pack_PutNum.f (k : Nat) (l0 : List Int) (a1 : Int) : Option (List Int) := (pack_owned.f l0 10).bind fun t117 => ((pack_add.f k t117 a1).bind fun t120 => (some t120))
theorem pack_PutNum.mono : ∀ a0 a1 k, LeO (pack_PutNum.f k a0 a1) (pack_PutNum.f (k + 1) a0 a1) := by
 intro a0 a1 k
 unfold pack_PutNum.f
 repeat' first
  | (with_reducible exact pack_add.mono _ _ _)
  | (with_reducible exact LeO.refl _)
  | (with_reducible exact LeO.none _)
  | (with_reducible refine LeO.ite ?_ ?_)
  | (with_reducible refine LeO.bind ?_ (fun _ => ?_))
  | exact pack_add.mono _ _ _
  | exact LeO.none _
  | refine LeO.ite ?_ ?_
  | refine LeO.bind ?_ (fun _ => ?_)
set_option maxHeartbeats 8000000 in
set_option maxRecDepth 100000 in
theorem pack_PutNum.calls (k : Nat) (A0 : Option Addr) (c0 : Nat) (l0 : List Int) (a1 : Int) (r : List Int) (w : World) (hr0 : Kd.C (Kd.int .u8) w A0 l0.length l0) (hc0 : l0.length ≤ c0) (h : pack_PutNum.f k l0 a1 = some r) :
 Calls Try.prog 64 #[.slice A0 l0.length c0, .int .i64 a1] w fun e w' => ∃ v0_ : Value, e = .returned (v0_) ∧ Kd.R (Kd.int .u8) 5 w' w.heap.size (fun _ => True) v0_ r ∧ Below w.heap.size w w' := by
 have HR0 := Aside0.mk hr0
 have HC0 := Aside0.mk hc0
 clear hr0 hc0
 have HB := Aside0.mk (Below.refl w.heap.size w)
 have H : ((pack_owned.f l0 10).bind fun t117 => ((pack_add.f k t117 a1).bind fun t120 => (some t120))) = some r := h
 clear h
 replace H := Option.bind_eq_some_iff.mp H
 obtain ⟨t117, A30, H⟩ := H
 replace H : ((pack_add.f k t117 a1).bind fun t120 => (some t120)) = some r := H
 have A3 := Aside0.mk A30
 clear A30
 replace H := Option.bind_eq_some_iff.mp H
 obtain ⟨t120, A40, H⟩ := H
 replace H : (some t120) = some r := H
 have A4 := Aside0.mk A40
 clear A40
 obtain rfl := Option.some.inj H
 go_enter Try.func64, Try.ntmps64
 go_wp2_with (first | ((with_reducible refine gate_callee (f := 80) rfl ?_); refine Hlp.gl (some 6) Try.func80 #[.slice A0 l0.length c0, .int .i64 10] ?_; (with_reducible refine (pack_owned.calls _ _ l0 10 t117 _ ?side1 ?side2 A3.out).mono ?_); (case side1 => exact Hlp.cp HR0.out); (case side2 => exact HC0.out); rintro e w5 ⟨v118, rfl, ho0, hb⟩; refine ⟨_, rfl, ?_⟩; have HO119 := Aside0.mk (Kd.R_lower ho0 (below_size (Hlp.bl HB.out))); replace HB := Aside0.mk (below_step (Hlp.bl HB.out) hb); (try clear hb); (try clear hb2); (try clear hk); (try clear hi); (try clear ho0); obtain ⟨Ao6, co6, eo6⟩ := Kd.R_slice HO119.out; subst eo6) | ((with_reducible refine gate_callee (f := 79) rfl ?_); refine Hlp.gl (some 8) Try.func79 #[.slice Ao6 t117.length co6, .int .i64 a1] ?_; (with_reducible refine (pack_add.calls k (fun k_ => some k_ = (.slice Ao6 t117.length co6 : Value).ownBlock) (.slice Ao6 t117.length co6) t117 a1 t120 w _ ?side1 ?side2 A4.out).mono ?_); (case side1 => repeat (first | (with_reducible first | exact HB.out | apply below_alloc | apply pw_below_drewN | apply below_drew1) | exact HB.out)); (case side2 => exact Kd.R_tight rfl HO119.out); rintro e w7 ⟨v121, rfl, ho0, hb, hkp⟩; refine ⟨_, rfl, ?_⟩; have n0_ := Aside0.mk (Kd.R_mono (ok' := fun k_ => True) ho0 (fun k_ hk_ => trivial)); have n1_ := Aside0.mk (hb); clear HB; clear HO119; have HO122 := n0_; have HB := n1_; clear n0_ n1_; (try clear hb); (try clear hkp); (try clear ho0)))
 go_ret
 exact ⟨_, by first | rfl | (simp [errW_none, errW_some] <;> rfl) | (simp [*, errW_none, errW_some] <;> rfl), by (with_reducible repeat (first | apply Kd.R_alloc | apply Kd.R_drewN | apply Kd.R_drew)); exact HO122.out, Hlp.bl HB.out⟩


/-! ### frame_Wrap: function 65 -/
def frame_Wrap.f (k : Nat) (l0 : List Int) : Option (List Int) := if (l0.length : Int) > 65536 then (some ([] : List Int)) else ((frame_Sum.f k l0).bind fun t124 => ((pack_PutNum.f k ([] : List Int) (l0.length : Int)).bind fun t125 => ((some (([(t124 / 16777216) % 256, (t124 / 65536) % 256, (t124 / 256) % 256, (t124) % 256] : List Int) : List Int)).bind fun y128 => (if t125.length + y128.length < 140737488355328 then ((some (t125 ++ y128 : List Int)).bind fun y131 => (if y131.length + l0.length < 140737488355328 then (some (y131 ++ l0)) else (none))) else (none)))))
theorem frame_Wrap.mono : ∀ a0 k, LeO (frame_Wrap.f k a0) (frame_Wrap.f (k + 1) a0) := by
 intro a0 k
 unfold frame_Wrap.f
 repeat' first
  | (with_reducible exact frame_Sum.mono _ _)
  | (with_reducible exact pack_PutNum.mono _ _ _)
  | (with_reducible exact LeO.refl _)
  | (with_reducible exact LeO.none _)
  | (with_reducible refine LeO.ite ?_ ?_)
  | (with_reducible refine LeO.bind ?_ (fun _ => ?_))
  | exact frame_Sum.mono _ _
  | exact pack_PutNum.mono _ _ _
  | exact LeO.none _
  | refine LeO.ite ?_ ?_
  | refine LeO.bind ?_ (fun _ => ?_)
set_option maxHeartbeats 8000000 in
set_option maxRecDepth 100000 in
theorem frame_Wrap.calls (k : Nat) (A0 : Option Addr) (c0 : Nat) (l0 : List Int) (r : List Int) (w : World) (hr0 : Kd.C (Kd.int .u8) w A0 l0.length l0) (hc0 : l0.length ≤ c0) (h : frame_Wrap.f k l0 = some r) :
 Calls Try.prog 65 #[.slice A0 l0.length c0] w fun e w' => ∃ v0_ : Value, e = .returned (v0_) ∧ Kd.R (Kd.int .u8) 5 w' w.heap.size (fun _ => True) v0_ r ∧ Below w.heap.size w w' := by
 have HR0 := Aside0.mk hr0
 have HC0 := Aside0.mk hc0
 clear hr0 hc0
 have HB := Aside0.mk (Below.refl w.heap.size w)
 have H : (if (l0.length : Int) > 65536 then (some ([] : List Int)) else ((frame_Sum.f k l0).bind fun t124 => ((pack_PutNum.f k ([] : List Int) (l0.length : Int)).bind fun t125 => ((some (([(t124 / 16777216) % 256, (t124 / 65536) % 256, (t124 / 256) % 256, (t124) % 256] : List Int) : List Int)).bind fun y128 => (if t125.length + y128.length < 140737488355328 then ((some (t125 ++ y128 : List Int)).bind fun y131 => (if y131.length + l0.length < 140737488355328 then (some (y131 ++ l0)) else (none))) else (none)))))) = some r := h
 clear h
 by_cases c2 : (l0.length : Int) > 65536
 ·
  rw [if_pos c2] at H
  have c2b0 : decide (65536 < (l0.length : Int)) = true := decide_eq_true c2
  have c2b1 : decide (65536 < l0.length) = true := decide_eq_true (by omega)
  clear c2
  obtain rfl := Option.some.inj H
  go_enter Try.func65, Try.ntmps65
  go_wp2
  go_ret
  exact ⟨_, by first | rfl | (simp [errW_none, errW_some] <;> rfl) | (simp [*, errW_none, errW_some] <;> rfl), by first | exact Kd.R_nil _ _ _ _ _ | exact Kd.N_nil _ _ _ _ _ | exact Kd.V_nil _ _ _ _ _ | exact Kd.Q_nil _ _ _ _ _ | exact Kd.S_nil _ _ _ _ _, Hlp.bl HB.out⟩
 ·
  rw [if_neg c2] at H
  have c2b0 : decide (65536 < (l0.length : Int)) = false := decide_eq_false c2
  have c2b1 : decide (65536 < l0.length) = false := decide_eq_false (by omega)
  clear c2
  replace H := Option.bind_eq_some_iff.mp H
  obtain ⟨t124, A30, H⟩ := H
  replace H : ((pack_PutNum.f k ([] : List Int) (l0.length : Int)).bind fun t125 => ((some (([(t124 / 16777216) % 256, (t124 / 65536) % 256, (t124 / 256) % 256, (t124) % 256] : List Int) : List Int)).bind fun y128 => (if t125.length + y128.length < 140737488355328 then ((some (t125 ++ y128 : List Int)).bind fun y131 => (if y131.length + l0.length < 140737488355328 then (some (y131 ++ l0)) else (none))) else (none)))) = some r := H
  have A3 := Aside0.mk A30
  clear A30
  replace H := Option.bind_eq_some_iff.mp H
  obtain ⟨t125, A40, H⟩ := H
  replace H : ((some (([(t124 / 16777216) % 256, (t124 / 65536) % 256, (t124 / 256) % 256, (t124) % 256] : List Int) : List Int)).bind fun y128 => (if t125.length + y128.length < 140737488355328 then ((some (t125 ++ y128 : List Int)).bind fun y131 => (if y131.length + l0.length < 140737488355328 then (some (y131 ++ l0)) else (none))) else (none))) = some r := H
  have A4 := Aside0.mk A40
  clear A40
  obtain ⟨y128, hy128⟩ : ∃ y_ : List Int, y_ = (([(t124 / 16777216) % 256, (t124 / 65536) % 256, (t124 / 256) % 256, (t124) % 256] : List Int)) := ⟨_, rfl⟩
  replace H : (if t125.length + y128.length < 140737488355328 then ((some (t125 ++ y128 : List Int)).bind fun y131 => (if y131.length + l0.length < 140737488355328 then (some (y131 ++ l0)) else (none))) else (none)) = some r := by first | (rw [hy128]; with_reducible exact H) | (have H2_ := (Option.bind_some _ _).symm.trans H; rw [hy128]; with_reducible exact H2_) | (have H2_ := (Option.bind_some _ _).symm.trans H; with_reducible exact H2_) | with_reducible exact H | (rw [hy128]; exact H) | exact H
  have Ny128 := Aside0.mk hy128
  clear hy128
  by_cases c5 : t125.length + y128.length < 140737488355328
  ·
   rw [if_pos c5] at H
   have LMc5 := Aside0.mk c5
   clear c5
   obtain ⟨y131, hy131⟩ : ∃ y_ : List Int, y_ = (t125 ++ y128) := ⟨_, rfl⟩
   replace H : (if y131.length + l0.length < 140737488355328 then (some (y131 ++ l0)) else (none)) = some r := by first | (rw [hy131]; with_reducible exact H) | (have H2_ := (Option.bind_some _ _).symm.trans H; rw [hy131]; with_reducible exact H2_) | (have H2_ := (Option.bind_some _ _).symm.trans H; with_reducible exact H2_) | with_reducible exact H | (rw [hy131]; exact H) | exact H
   have Ny131 := Aside0.mk hy131
   clear hy131
   by_cases c6 : y131.length + l0.length < 140737488355328
   ·
    rw [if_pos c6] at H
    have LMc6 := Aside0.mk c6
    clear c6
    obtain ⟨y134, hy134⟩ : ∃ y_ : List Int, y_ = (y131 ++ l0) := ⟨_, rfl⟩
    replace H : (some y134) = some r := by first | (rw [hy134]; with_reducible exact H) | (have H2_ := (Option.bind_some _ _).symm.trans H; rw [hy134]; with_reducible exact H2_) | (have H2_ := (Option.bind_some _ _).symm.trans H; with_reducible exact H2_) | with_reducible exact H | (rw [hy134]; exact H) | exact H
    have Ny134 := Aside0.mk hy134
    clear hy134
    obtain rfl := Option.some.inj H
    go_enter Try.func65, Try.ntmps65
    go_wp2_with (first | ((with_reducible refine gate_callee (f := 81) rfl ?_); refine Hlp.gl (some 9) Try.func81 #[.slice A0 l0.length c0] ?_; (with_reducible refine (frame_Sum.calls k _ _ l0 t124 _ ?side1 ?side2 A3.out).mono ?_); (case side1 => exact Hlp.cp HR0.out); (case side2 => exact HC0.out); rintro e w' ⟨rfl, ⟨nd, rfl⟩⟩; refine ⟨_, rfl, ?_⟩) | ((with_reducible refine gate_callee (f := 64) rfl ?_); refine Hlp.gl (some 12) Try.func64 #[.slice none 0 0, .int .i64 (l0.length : Int)] ?_; (refine (pack_PutNum.calls k _ _ ([] : List Int) (l0.length : Int) t125 _ ?side1 ?side2 A4.out).mono ?_); (case side1 => exact Kd.C_nil _ _); (case side2 => exact Nat.le_refl _); rintro e w7 ⟨v126, rfl, ho0, hb⟩; refine ⟨_, rfl, ?_⟩; have HO127 := Aside0.mk (Kd.R_lower ho0 (below_size (Hlp.bl HB.out))); replace HB := Aside0.mk (below_step (Hlp.bl HB.out) hb); (try clear hb); (try clear hb2); (try clear hk); (try clear hi); (try clear ho0)) | ((with_reducible refine gate_dst (N := 24) rfl ?_); refine Kd.R_lit (Kd.int .u8) _ 5 ?hg (N := 24) ?hd (xs := ([(t124 / 16777216) % 256, (t124 / 65536) % 256, (t124 / 256) % 256, (t124) % 256] : List Int)) (inner := [.int .u8 ((t124 / 16777216) % 256), .int .u8 ((t124 / 65536) % 256), .int .u8 ((t124 / 256) % 256), .int .u8 ((t124) % 256)]) (ok := fun _ => True) (okp := fun _ => True) ?hr ?hp (fun _ hk => hk) trivial (Below.refl _ _) (Nat.le_refl _) (by simp) ?_; (case hd => rfl); (case hg => rfl); (case hr => first | (go_simp; done) | (go_simp; rfl)); (case hp => exact (Reps.one (show Kd.M (Kd.int .u8) _ _ _ ((t124 / 16777216) % 256) [.int .u8 ((t124 / 16777216) % 256)] from rfl) (Reps.one (show Kd.M (Kd.int .u8) _ _ _ ((t124 / 65536) % 256) [.int .u8 ((t124 / 65536) % 256)] from rfl) (Reps.one (show Kd.M (Kd.int .u8) _ _ _ ((t124 / 256) % 256) [.int .u8 ((t124 / 256) % 256)] from rfl) (Reps.one (show Kd.M (Kd.int .u8) _ _ _ ((t124) % 256) [.int .u8 ((t124) % 256)] from rfl) (Reps.none _ _)))))); intro v129 w8 ho9 hb hg_ hnew_; clear hg_ hnew_; (first | rw [← Ny128.out] at ho9 | (simp only [Int.reduceToNat] at ho9; rw [← Ny128.out] at ho9)); have HO130 := Aside0.mk (Kd.R_lower (Kd.R_new' ho9 (Kd.R_lt (Hlp.rp HO127.out))) (below_size (Hlp.bl HB.out))); replace HO127 := Aside0.mk (Kd.R_elder' (Hlp.rp HO127.out) (Kd.R_base ho9) hb); replace HB := Aside0.mk (below_step (Hlp.bl HB.out) hb); clear hb ho9; obtain ⟨Ao11, co11, eo11⟩ := Kd.R_slice HO130.out; subst eo11) | ((with_reducible refine gate_builtin (b := .append) (xs := #[.tmp 12, .tmp 24]) rfl ?_); at_builtin; refine Kd.R_append_rows (Kd.int .u8) (w0 := w) w.heap.size rfl (.tmp 12) (.tmp 24) 28 5 (.int .u8 0) 1 rfl Try.underlying28 info5 rfl (by decide) (by omega) v126 t125 y128 _ _ _ (fun k_ => some k_ ≠ (.slice Ao11 y128.length co11 : Value).ownBlock) (fun _ => False) rfl rfl ?aO ?aR (fun _ _ h => h) (fun _ h => h.elim) ?aF ?aB ?aS ?aL ?_; (case aR => exact Hlp.cp (Kd.R_reads' HO130.out).2.2); (case aB => exact (Hlp.bl HB.out)); (case aF => exact (fun k_ hk => Kd.fresh' (Kd.R_lt (Hlp.rp HO130.out)) k_ hk)); (case aO => exact (by (with_reducible repeat (first | apply Kd.R_alloc | apply Kd.R_drewN | apply Kd.R_drew)); exact Kd.R_mono HO127.out (fun _ hk => hk.2))); (case aS => exact (below_size (Hlp.bl HB.out))); (case aL => have := LMc5.out; omega); intro v132 w10 ho hb hg hat; rw [← Ny131.out] at ho; have n0_ := Aside0.mk (Kd.R_after (ok := (fun _ => True)) (Hlp.rp HO130.out) hg hat); have n1_ := Aside0.mk (hb); have n2_ := Aside0.mk (ho); clear HO130; clear HB; clear HO127; have HO130 := n0_; have HB := n1_; have HO133 := n2_; clear n0_ n1_ n2_; clear ho hb hg hat) | ((with_reducible refine gate_builtin (b := .append) (xs := #[.tmp 26, .tmp 27]) rfl ?_); at_builtin; refine Kd.R_append_rows (Kd.int .u8) (w0 := w) w.heap.size rfl (.tmp 26) (.tmp 27) 28 5 (.int .u8 0) 1 rfl Try.underlying28 info5 rfl (by decide) (by omega) v132 y131 l0 _ _ _ (fun k_ => some k_ ≠ (.slice Ao11 y128.length co11 : Value).ownBlock) (fun _ => False) rfl rfl ?aO ?aR (fun _ _ h => h) (fun _ h => h.elim) ?aF ?aB ?aS ?aL ?_; (case aR => exact Hlp.cp (Kd.C_below HR0.out HB.out)); (case aB => exact (Hlp.bl HB.out)); (case aF => exact (fun k_ hk => Kd.fresh' (Kd.R_lt (Hlp.rp HO130.out)) k_ hk)); (case aO => exact (Hlp.rp HO133.out)); (case aS => exact (below_size (Hlp.bl HB.out))); (case aL => have := LMc6.out; omega); intro v135 w12 ho hb hg hat; rw [← Ny134.out] at ho; have n0_ := Aside0.mk (Kd.R_after (ok := (fun _ => True)) (Hlp.rp HO130.out) hg hat); have n1_ := Aside0.mk (hb); have n2_ := Aside0.mk (ho); clear HO130; clear HB; clear HO133; have HO130 := n0_; have HB := n1_; have HO136 := n2_; clear n0_ n1_ n2_; clear ho hb hg hat))
    go_ret
    exact ⟨_, by first | rfl | (simp [errW_none, errW_some] <;> rfl) | (simp [*, errW_none, errW_some] <;> rfl), by (with_reducible repeat (first | apply Kd.R_alloc | apply Kd.R_drewN | apply Kd.R_drew)); exact Kd.R_mono HO136.out (fun _ hk => trivial), Hlp.bl HB.out⟩
   ·
    rw [if_neg c6] at H
    exact absurd H (by simp)
  ·
   rw [if_neg c5] at H
   exact absurd H (by simp)


/-! ### pack_PutText: function 66 -/
def pack_PutText.f (k : Nat) (l0 : List Int) (a1 : ByteArray) : Option (List Int) := (pack_owned.f l0 (wrap64 (10 + (a1.size : Int)))).bind fun t137 => ((pack_add.f k t137 (a1.size : Int)).bind fun t140 => (if t140.length + a1.size < 140737488355328 then (some (t140 ++ bytesOf a1)) else (none)))
theorem pack_PutText.mono : ∀ a0 a1 k, LeO (pack_PutText.f k a0 a1) (pack_PutText.f (k + 1) a0 a1) := by
 intro a0 a1 k
 unfold pack_PutText.f
 repeat' first
  | (with_reducible exact pack_add.mono _ _ _)
  | (with_reducible exact LeO.refl _)
  | (with_reducible exact LeO.none _)
  | (with_reducible refine LeO.ite ?_ ?_)
  | (with_reducible refine LeO.bind ?_ (fun _ => ?_))
  | exact pack_add.mono _ _ _
  | exact LeO.none _
  | refine LeO.ite ?_ ?_
  | refine LeO.bind ?_ (fun _ => ?_)
set_option maxHeartbeats 8000000 in
set_option maxRecDepth 100000 in
theorem pack_PutText.calls (k : Nat) (A0 : Option Addr) (c0 : Nat) (l0 : List Int) (a1 : ByteArray) (r : List Int) (w : World) (hr0 : Kd.C (Kd.int .u8) w A0 l0.length l0) (hc0 : l0.length ≤ c0) (h : pack_PutText.f k l0 a1 = some r) :
 Calls Try.prog 66 #[.slice A0 l0.length c0, .string a1] w fun e w' => ∃ v0_ : Value, e = .returned (v0_) ∧ Kd.R (Kd.int .u8) 5 w' w.heap.size (fun _ => True) v0_ r ∧ Below w.heap.size w w' := by
 have HR0 := Aside0.mk hr0
 have HC0 := Aside0.mk hc0
 clear hr0 hc0
 have HB := Aside0.mk (Below.refl w.heap.size w)
 have H : ((pack_owned.f l0 (wrap64 (10 + (a1.size : Int)))).bind fun t137 => ((pack_add.f k t137 (a1.size : Int)).bind fun t140 => (if t140.length + a1.size < 140737488355328 then (some (t140 ++ bytesOf a1)) else (none)))) = some r := h
 clear h
 replace H := Option.bind_eq_some_iff.mp H
 obtain ⟨t137, A30, H⟩ := H
 replace H : ((pack_add.f k t137 (a1.size : Int)).bind fun t140 => (if t140.length + a1.size < 140737488355328 then (some (t140 ++ bytesOf a1)) else (none))) = some r := H
 have A3 := Aside0.mk A30
 clear A30
 replace H := Option.bind_eq_some_iff.mp H
 obtain ⟨t140, A40, H⟩ := H
 replace H : (if t140.length + a1.size < 140737488355328 then (some (t140 ++ bytesOf a1)) else (none)) = some r := H
 have A4 := Aside0.mk A40
 clear A40
 by_cases c5 : t140.length + a1.size < 140737488355328
 ·
  rw [if_pos c5] at H
  have LMc5 := Aside0.mk c5
  clear c5
  obtain ⟨y143, hy143⟩ : ∃ y_ : List Int, y_ = (t140 ++ bytesOf a1) := ⟨_, rfl⟩
  replace H : (some y143) = some r := by first | (rw [hy143]; with_reducible exact H) | (have H2_ := (Option.bind_some _ _).symm.trans H; rw [hy143]; with_reducible exact H2_) | (have H2_ := (Option.bind_some _ _).symm.trans H; with_reducible exact H2_) | with_reducible exact H | (rw [hy143]; exact H) | exact H
  have Ny143 := Aside0.mk hy143
  clear hy143
  obtain rfl := Option.some.inj H
  go_enter Try.func66, Try.ntmps66
  go_wp2_with (first | ((with_reducible refine gate_callee (f := 80) rfl ?_); refine Hlp.gl (some 9) Try.func80 #[.slice A0 l0.length c0, .int .i64 (wrap64 (10 + (a1.size : Int)))] ?_; (with_reducible refine (pack_owned.calls _ _ l0 (wrap64 (10 + (a1.size : Int))) t137 _ ?side1 ?side2 A3.out).mono ?_); (case side1 => exact Hlp.cp HR0.out); (case side2 => exact HC0.out); rintro e w6 ⟨v138, rfl, ho0, hb⟩; refine ⟨_, rfl, ?_⟩; have HO139 := Aside0.mk (Kd.R_lower ho0 (below_size (Hlp.bl HB.out))); replace HB := Aside0.mk (below_step (Hlp.bl HB.out) hb); (try clear hb); (try clear hb2); (try clear hk); (try clear hi); (try clear ho0); obtain ⟨Ao7, co7, eo7⟩ := Kd.R_slice HO139.out; subst eo7) | ((with_reducible refine gate_callee (f := 79) rfl ?_); refine Hlp.gl (some 12) Try.func79 #[.slice Ao7 t137.length co7, .int .i64 (a1.size : Int)] ?_; (with_reducible refine (pack_add.calls k (fun k_ => some k_ = (.slice Ao7 t137.length co7 : Value).ownBlock) (.slice Ao7 t137.length co7) t137 (a1.size : Int) t140 w _ ?side1 ?side2 A4.out).mono ?_); (case side1 => repeat (first | (with_reducible first | exact HB.out | apply below_alloc | apply pw_below_drewN | apply below_drew1) | exact HB.out)); (case side2 => exact Kd.R_tight rfl HO139.out); rintro e w8 ⟨v141, rfl, ho0, hb, hkp⟩; refine ⟨_, rfl, ?_⟩; have n0_ := Aside0.mk (Kd.R_mono (ok' := fun k_ => True) ho0 (fun k_ hk_ => trivial)); have n1_ := Aside0.mk (hb); clear HB; clear HO139; have HO142 := n0_; have HB := n1_; clear n0_ n1_; (try clear hb); (try clear hkp); (try clear ho0)) | (at_builtin; refine print_append_str (w0 := w) w.heap.size rfl (.tmp 12) _ 28 9 5 rfl Try.underlying28 Try.underlying9 info5 v141 t140 a1 rfl rfl ?aO ?aB ?aS ?aL ?_; (case aB => exact (Hlp.bl HB.out)); (case aO => exact (Kd.own_of_R (Hlp.rp HO142.out))); (case aS => exact (below_size (Hlp.bl HB.out))); (case aL => have := LMc5.out; omega); intro v144 w9 ho0 hb hg; have ho := Kd.R_of_own (h1 := fun _ => rfl) (ok := fun _ => True) ho0 (fun _ _ => trivial); clear ho0; have hat := True.intro; rw [← Ny143.out] at ho; change Kd.R (Kd.int .u8) 5 w9 w.heap.size (fun _ => True) v144 y143 at ho; have n0_ := Aside0.mk (hb); have n1_ := Aside0.mk (ho); clear HB; clear HO142; have HB := n0_; have HO145 := n1_; clear n0_ n1_; clear ho hb hg hat))
  go_ret
  exact ⟨_, by first | rfl | (simp [errW_none, errW_some] <;> rfl) | (simp [*, errW_none, errW_some] <;> rfl), by (with_reducible repeat (first | apply Kd.R_alloc | apply Kd.R_drewN | apply Kd.R_drew)); exact HO145.out, Hlp.bl HB.out⟩
 ·
  rw [if_neg c5] at H
  exact absurd H (by simp)


/-! ### record_Encode: function 25 -/
def record_Encode.f (k : Nat) (a0_0 : Int) (a0_1 : Int) (a0_2 : ByteArray) (a0_3 : ByteArray) : Option (List Int × Int) := (record_Check.f k a0_0 a0_1 a0_2 a0_3).bind fun t147 => (if t147 = 0 then ((pack_PutNum.f k ([] : List Int) a0_0).bind fun t148 => ((pack_PutNum.f k t148 a0_1).bind fun t151 => ((pack_PutText.f k t151 a0_2).bind fun t154 => ((pack_PutText.f k t154 a0_3).bind fun t157 => ((frame_Wrap.f k t157).bind fun t160 => ((some (([] : List Int) : List Int)).bind fun y163 => (if y163.length + t160.length < 140737488355328 then (some ((y163 ++ t160), 0)) else (none)))))))) else (some (([] : List Int), t147)))
theorem record_Encode.mono : ∀ a0 a1 a2 a3 k, LeO (record_Encode.f k a0 a1 a2 a3) (record_Encode.f (k + 1) a0 a1 a2 a3) := by
 intro a0 a1 a2 a3 k
 unfold record_Encode.f
 repeat' first
  | (with_reducible exact frame_Wrap.mono _ _)
  | (with_reducible exact pack_PutNum.mono _ _ _)
  | (with_reducible exact pack_PutText.mono _ _ _)
  | (with_reducible exact record_Check.mono _ _ _ _ _)
  | (with_reducible exact LeO.refl _)
  | (with_reducible exact LeO.none _)
  | (with_reducible refine LeO.ite ?_ ?_)
  | (with_reducible refine LeO.bind ?_ (fun _ => ?_))
  | exact frame_Wrap.mono _ _
  | exact pack_PutNum.mono _ _ _
  | exact pack_PutText.mono _ _ _
  | exact record_Check.mono _ _ _ _ _
  | exact LeO.none _
  | refine LeO.ite ?_ ?_
  | refine LeO.bind ?_ (fun _ => ?_)
def record_Encode.T5 : Bool × List (List Nat × List Nat) := (true, [([], []), ([], []), ([1], [1]), ([0, 2], [0, 2]), ([], []), ([4], [4]), ([3, 5, 3], [3, 5]), ([6, 6], [6]), ([7, 7, 0, 1, 2, 3, 4, 5, 6, 7], [7])])
def record_Encode.B5 : List Nat := [0, 0, 2, 7, 0, 16, 63, 127, 255]
theorem record_Encode.tab5 : rtab .any (opsOf Try.f25 5) = record_Encode.T5 := by kernel_rfl
theorem record_Encode.bits5 : waitsOk record_Encode.T5.2 record_Encode.B5 = true := by kernel_rfl
set_option maxHeartbeats 8000000 in
set_option maxRecDepth 100000 in
theorem record_Encode.calls (k : Nat) (a0_0 : Int) (a0_1 : Int) (a0_2 : ByteArray) (a0_3 : ByteArray) (r1 : List Int) (r2 : Int) (w : World) (h : record_Encode.f k a0_0 a0_1 a0_2 a0_3 = some (r1, r2)) :
 Calls Try.prog 25 #[.agg #[.int .i64 a0_0, .int .i64 a0_1, .string a0_2, .string a0_3]] w fun e w' => ∃ v0_ : Value, e = .returned (.tuple #[v0_, .int .i64 r2]) ∧ Kd.R (Kd.int .u8) 5 w' w.heap.size (fun _ => True) v0_ r1 ∧ Below w.heap.size w w' := by
 have hu23 := Try.underlying23
 have HB := Aside0.mk (Below.refl w.heap.size w)
 have H : ((record_Check.f k a0_0 a0_1 a0_2 a0_3).bind fun t147 => (if t147 = 0 then ((pack_PutNum.f k ([] : List Int) a0_0).bind fun t148 => ((pack_PutNum.f k t148 a0_1).bind fun t151 => ((pack_PutText.f k t151 a0_2).bind fun t154 => ((pack_PutText.f k t154 a0_3).bind fun t157 => ((frame_Wrap.f k t157).bind fun t160 => ((some (([] : List Int) : List Int)).bind fun y163 => (if y163.length + t160.length < 140737488355328 then (some ((y163 ++ t160), 0)) else (none)))))))) else (some (([] : List Int), t147)))) = some (r1, r2) := h
 clear h
 replace H := Option.bind_eq_some_iff.mp H
 obtain ⟨t147, A20, H⟩ := H
 replace H : (if t147 = 0 then ((pack_PutNum.f k ([] : List Int) a0_0).bind fun t148 => ((pack_PutNum.f k t148 a0_1).bind fun t151 => ((pack_PutText.f k t151 a0_2).bind fun t154 => ((pack_PutText.f k t154 a0_3).bind fun t157 => ((frame_Wrap.f k t157).bind fun t160 => ((some (([] : List Int) : List Int)).bind fun y163 => (if y163.length + t160.length < 140737488355328 then (some ((y163 ++ t160), 0)) else (none)))))))) else (some (([] : List Int), t147))) = some (r1, r2) := H
 have A2 := Aside0.mk A20
 clear A20
 by_cases c3 : t147 = 0
 ·
  rw [if_pos c3] at H
  have c3b0 : (t147 == 0) = true := beq_iff_eq.mpr c3
  have c3b1 : (t147 != 0) = false := bne_eq_false_iff_eq.mpr c3
  clear c3
  replace H := Option.bind_eq_some_iff.mp H
  obtain ⟨t148, A40, H⟩ := H
  replace H : ((pack_PutNum.f k t148 a0_1).bind fun t151 => ((pack_PutText.f k t151 a0_2).bind fun t154 => ((pack_PutText.f k t154 a0_3).bind fun t157 => ((frame_Wrap.f k t157).bind fun t160 => ((some (([] : List Int) : List Int)).bind fun y163 => (if y163.length + t160.length < 140737488355328 then (some ((y163 ++ t160), 0)) else (none))))))) = some (r1, r2) := H
  have A4 := Aside0.mk A40
  clear A40
  replace H := Option.bind_eq_some_iff.mp H
  obtain ⟨t151, A50, H⟩ := H
  replace H : ((pack_PutText.f k t151 a0_2).bind fun t154 => ((pack_PutText.f k t154 a0_3).bind fun t157 => ((frame_Wrap.f k t157).bind fun t160 => ((some (([] : List Int) : List Int)).bind fun y163 => (if y163.length + t160.length < 140737488355328 then (some ((y163 ++ t160), 0)) else (none)))))) = some (r1, r2) := H
  have A5 := Aside0.mk A50
  clear A50
  replace H := Option.bind_eq_some_iff.mp H
  obtain ⟨t154, A60, H⟩ := H
  replace H : ((pack_PutText.f k t154 a0_3).bind fun t157 => ((frame_Wrap.f k t157).bind fun t160 => ((some (([] : List Int) : List Int)).bind fun y163 => (if y163.length + t160.length < 140737488355328 then (some ((y163 ++ t160), 0)) else (none))))) = some (r1, r2) := H
  have A6 := Aside0.mk A60
  clear A60
  replace H := Option.bind_eq_some_iff.mp H
  obtain ⟨t157, A70, H⟩ := H
  replace H : ((frame_Wrap.f k t157).bind fun t160 => ((some (([] : List Int) : List Int)).bind fun y163 => (if y163.length + t160.length < 140737488355328 then (some ((y163 ++ t160), 0)) else (none)))) = some (r1, r2) := H
  have A7 := Aside0.mk A70
  clear A70
  replace H := Option.bind_eq_some_iff.mp H
  obtain ⟨t160, A80, H⟩ := H
  replace H : ((some (([] : List Int) : List Int)).bind fun y163 => (if y163.length + t160.length < 140737488355328 then (some ((y163 ++ t160), 0)) else (none))) = some (r1, r2) := H
  have A8 := Aside0.mk A80
  clear A80
  obtain ⟨y163, hy163⟩ : ∃ y_ : List Int, y_ = (([] : List Int)) := ⟨_, rfl⟩
  replace H : (if y163.length + t160.length < 140737488355328 then (some ((y163 ++ t160), 0)) else (none)) = some (r1, r2) := by first | (rw [hy163]; with_reducible exact H) | (have H2_ := (Option.bind_some _ _).symm.trans H; rw [hy163]; with_reducible exact H2_) | (have H2_ := (Option.bind_some _ _).symm.trans H; with_reducible exact H2_) | with_reducible exact H | (rw [hy163]; exact H) | exact H
  have Ny163 := Aside0.mk hy163
  clear hy163
  by_cases c9 : y163.length + t160.length < 140737488355328
  ·
   rw [if_pos c9] at H
   have LMc9 := Aside0.mk c9
   clear c9
   obtain ⟨y166, hy166⟩ : ∃ y_ : List Int, y_ = (y163 ++ t160) := ⟨_, rfl⟩
   replace H : (some (y166, 0)) = some (r1, r2) := by first | (rw [hy166]; with_reducible exact H) | (have H2_ := (Option.bind_some _ _).symm.trans H; rw [hy166]; with_reducible exact H2_) | (have H2_ := (Option.bind_some _ _).symm.trans H; with_reducible exact H2_) | with_reducible exact H | (rw [hy166]; exact H) | exact H
   have Ny166 := Aside0.mk hy166
   clear hy166
   simp only [Option.some.injEq, Prod.mk.injEq] at H
   obtain ⟨rfl, rfl⟩ := H
   go_enter Try.func25, Try.ntmps25
   try go_wp2_with (first | ((with_reducible refine gate_dst (N := 1) rfl ?_); refine Hlp.bx (N := 1) (cs := #[.int .i64 a0_0, .int .i64 a0_1, .string a0_2, .string a0_3]) (t := 23) ?_; intro gb146 hg w10 hbox hb; have BK146 := Aside0.mk (hbox); have GW146 := Aside0.mk ((by rw [hg]; exact (below_size (Hlp.bl HB.out)) : w.heap.size ≤ gb146)); have GE146 := Aside0.mk ((by rw [hg]; exact (below_size (Hlp.bl HB.out)) : w.heap.size ≤ gb146)); replace HB := Aside0.mk (below_step (Hlp.bl HB.out) hb); clear hb hbox hg; have hcz11_0 : w10.cell? ⟨gb146, 0, none⟩ = some (.int .i64 a0_0) := (blk_cell BK146.out 0).trans rfl; have hcz11_1 : w10.cell? ⟨gb146, 1, none⟩ = some (.int .i64 a0_1) := (blk_cell BK146.out 1).trans rfl; have hcz11_2 : w10.cell? ⟨gb146, 2, none⟩ = some (.string a0_2) := (blk_cell BK146.out 2).trans rfl; have hcz11_3 : w10.cell? ⟨gb146, 3, none⟩ = some (.string a0_3) := (blk_cell BK146.out 3).trans rfl; have hfz11_0 := blk_frozen BK146.out 0; have hfz11_1 := blk_frozen BK146.out 1; have hfz11_2 := blk_frozen BK146.out 2; have hfz11_3 := blk_frozen BK146.out 3) | ((with_reducible refine gate_callee (f := 22) rfl ?_); refine Hlp.gl (some 9) Try.func22 #[.agg #[.int .i64 a0_0, .int .i64 a0_1, .string a0_2, .string a0_3]] ?_; (with_reducible refine (record_Check.calls k a0_0 a0_1 a0_2 a0_3 t147 _ A2.out).mono ?_); rintro e w12 ⟨rfl, hb⟩; refine ⟨_, rfl, ?_⟩; replace BK146 := Aside0.mk (blk_below (g := gb146) (o := .cells #[.int .i64 a0_0, .int .i64 a0_1, .string a0_2, .string a0_3] 23 (0, 0)) (Hlp.bp BK146.out) hb); replace HB := Aside0.mk (below_step (Hlp.bl HB.out) hb); (try clear hb); (try clear hb2); (try clear hk); (try clear hi)))
   replace BK146 := Aside0.mk (blk_drew BK146.out)
   replace HB := Aside0.mk (below_drew1 HB.out)
   refine start_ (n := 7) (S := fun w' => w'.cell? ⟨gb146, 0, none⟩ = some (.int .i64 a0_0) ∧ w'.cell? ⟨gb146, 1, none⟩ = some (.int .i64 a0_1) ∧ w'.cell? ⟨gb146, 2, none⟩ = some (.string a0_2) ∧ w'.cell? ⟨gb146, 3, none⟩ = some (.string a0_3)) (ds := []) #[false, false, false, false, false, false, false] (by kernel_rfl) rfl rfl ⟨(blk_cell BK146.out 0).trans rfl, (blk_cell BK146.out 1).trans rfl, (blk_cell BK146.out 2).trans rfl, (blk_cell BK146.out 3).trans rfl⟩ (fun hHeld => ?_)
   generalize w12.drew = w13 at BK146 HB hHeld ⊢
   refine pure_ (i := 0) (N := some 13) (v := ?_) (a' := ?_) #[true, false, false, false, false, false, false] rfl rfl (by kernel_rfl) (fun _ _ _ h => h) (Or.inl ⟨by rfl, ?_⟩) ?_ ?_
   rotate_left
   ·
    intro w'
    go_simp
    with_reducible rfl
   rotate_left
   ·
    simp only [Act.put, List.setIfInBounds_toArray, List.set_cons_zero, List.set_cons_succ, i64_w, i32_w]
    rfl
   refine pure_ (i := 3) (N := some 16) (v := ?_) (a' := ?_) #[true, false, false, true, false, false, false] rfl rfl (by kernel_rfl) (fun _ _ _ h => h) (Or.inl ⟨by rfl, ?_⟩) ?_ ?_
   rotate_left
   ·
    intro w'
    go_simp
    with_reducible rfl
   rotate_left
   ·
    simp only [Act.put, List.setIfInBounds_toArray, List.set_cons_zero, List.set_cons_succ, i64_w, i32_w]
    rfl
   refine take_ (i := 1) (N := some 14) (v := ?_) (a' := ?_) #[true, true, false, true, false, false, false] rfl rfl (by kernel_rfl) (fun _ _ _ h => h) (Or.inl ⟨by rfl, ?_⟩) hHeld ?_ ?_
   rotate_left
   ·
    rintro w' ⟨s0, s1, s2, s3⟩
    go_simp
    with_reducible rfl
   rotate_left
   ·
    simp only [Act.put, List.setIfInBounds_toArray, List.set_cons_zero, List.set_cons_succ, i64_w, i32_w]
    rfl
   refine take_ (i := 4) (N := some 17) (v := ?_) (a' := ?_) #[true, true, false, true, true, false, false] rfl rfl (by kernel_rfl) (fun _ _ _ h => h) (Or.inl ⟨by rfl, ?_⟩) hHeld ?_ ?_
   rotate_left
   ·
    rintro w' ⟨s0, s1, s2, s3⟩
    go_simp
    with_reducible rfl
   rotate_left
   ·
    simp only [Act.put, List.setIfInBounds_toArray, List.set_cons_zero, List.set_cons_succ, i64_w, i32_w]
    rfl
   refine one_ (i := 2) (N := some 15) #[true, true, true, true, true, false, false] rfl rfl (by kernel_rfl) (by decide) (fun K hK => ?_)
   refine goes_ Try.func64 (by kernel_rfl) rfl #[.slice none 0 0, .int .i64 a0_0] (by rfl) rfl rfl (by (try simp only [List.map_toArray, List.map_cons, List.map_nil]); first | done | rfl | (simp only [List.length_drop, List.length_take]; rfl)) ?_
   refine (pack_PutNum.calls k _ _ ([] : List Int) a0_0 t148 _ ?side1 ?side2 A4.out).mono ?_
   (case side1 => exact Kd.C_nil _ _)
   (case side2 => exact Nat.le_refl _)
   rintro e w14 ⟨v149, rfl, ho0, hb⟩
   refine ⟨_, rfl, ?_⟩
   have HO150 := Aside0.mk (Kd.R_lower ho0 (below_size (Hlp.bl HB.out)))
   replace BK146 := Aside0.mk (blk_below (g := gb146) (o := .cells #[.int .i64 a0_0, .int .i64 a0_1, .string a0_2, .string a0_3] 23 (0, 0)) (Hlp.bp BK146.out) hb)
   replace HB := Aside0.mk (below_step (Hlp.bl HB.out) hb)
   (try clear hb)
   (try clear hb2)
   (try clear hk)
   (try clear hi)
   (try clear ho0)
   obtain ⟨Ao15, co15, eo15⟩ := Kd.R_slice HO150.out
   (first | subst eo15 | (injection eo15 with f1_ f2_ f3_; have f4_ := f1_.symm; have f5_ := f3_.symm; clear f1_ f2_ f3_; subst f4_; subst f5_))
   refine hK.out _ _ ⟨(blk_cell BK146.out 0).trans rfl, (blk_cell BK146.out 1).trans rfl, (blk_cell BK146.out 2).trans rfl, (blk_cell BK146.out 3).trans rfl⟩ (fun hHeld => ?_)
   clear hK K
   refine norm_ (a' := ?_) ?_ ?_
   rotate_left
   ·
    show Act.put _ (some 15) _ = _
    simp only [Act.put, List.setIfInBounds_toArray, List.set_cons_zero, List.set_cons_succ, i64_w, i32_w]
    rfl
   refine one_ (i := 5) (N := some 18) #[true, true, true, true, true, true, false] rfl rfl (by kernel_rfl) (by decide) (fun K hK => ?_)
   refine goes_ Try.func64 (by kernel_rfl) rfl #[.slice Ao15 t148.length co15, .int .i64 a0_1] (by rfl) rfl rfl (by (try simp only [List.map_toArray, List.map_cons, List.map_nil]); first | done | rfl | (simp only [List.length_drop, List.length_take]; rfl)) ?_
   with_reducible refine (pack_PutNum.calls k _ _ t148 a0_1 t151 _ ?side1 ?side2 A5.out).mono ?_
   (case side1 => exact Hlp.cp (Kd.R_reads' HO150.out).2.2)
   (case side2 => exact (Kd.R_reads' HO150.out).2.1)
   rintro e w16 ⟨v152, rfl, ho0, hb⟩
   refine ⟨_, rfl, ?_⟩
   have HO153 := Aside0.mk (Kd.R_lower (Kd.R_new' ho0 (Kd.R_lt (Hlp.rp HO150.out))) (below_size (Hlp.bl HB.out)))
   replace HO150 := Aside0.mk (Kd.R_elder' (Hlp.rp HO150.out) (Kd.R_base ho0) hb)
   replace BK146 := Aside0.mk (blk_below (g := gb146) (o := .cells #[.int .i64 a0_0, .int .i64 a0_1, .string a0_2, .string a0_3] 23 (0, 0)) (Hlp.bp BK146.out) hb)
   replace HB := Aside0.mk (below_step (Hlp.bl HB.out) hb)
   (try clear hb)
   (try clear hb2)
   (try clear hk)
   (try clear hi)
   (try clear ho0)
   refine hK.out _ _ ⟨(blk_cell BK146.out 0).trans rfl, (blk_cell BK146.out 1).trans rfl, (blk_cell BK146.out 2).trans rfl, (blk_cell BK146.out 3).trans rfl⟩ (fun hHeld => ?_)
   clear hK K
   refine norm_ (a' := ?_) ?_ ?_
   rotate_left
   ·
    show Act.put _ (some 18) _ = _
    simp only [Act.put, List.setIfInBounds_toArray, List.set_cons_zero, List.set_cons_succ, i64_w, i32_w]
    rfl
   refine pure_ (i := 6) (N := some 5) (v := ?_) (a' := ?_) #[true, true, true, true, true, true, true] rfl rfl (by kernel_rfl) (fun _ _ _ h => h) (Or.inl ⟨by rfl, ?_⟩) ?_ ?_
   rotate_left
   ·
    intro w'
    go_simp
    with_reducible rfl
   rotate_left
   ·
    simp only [Act.put, List.setIfInBounds_toArray, List.set_cons_zero, List.set_cons_succ, i64_w, i32_w]
    rfl
   refine done_ (by kernel_rfl) ?_
   try go_wp2
   replace HO150 := Aside0.mk (Kd.R_drew HO150.out)
   replace HO153 := Aside0.mk (Kd.R_drew HO153.out)
   replace BK146 := Aside0.mk (blk_drew BK146.out)
   replace HB := Aside0.mk (below_drew1 HB.out)
   obtain ⟨Ao18, co18, eo18⟩ := Kd.R_slice HO153.out
   (first | subst eo18 | (injection eo18 with f1_ f2_ f3_; have f4_ := f1_.symm; have f5_ := f3_.symm; clear f1_ f2_ f3_; subst f4_; subst f5_))
   refine start_ (n := 9) (S := fun w' => w'.cell? ⟨gb146, 0, none⟩ = some (.int .i64 a0_0) ∧ w'.cell? ⟨gb146, 1, none⟩ = some (.int .i64 a0_1) ∧ w'.cell? ⟨gb146, 2, none⟩ = some (.string a0_2) ∧ w'.cell? ⟨gb146, 3, none⟩ = some (.string a0_3)) (ds := []) #[false, false, false, false, false, false, false, false, false] (by kernel_rfl) rfl rfl ⟨(blk_cell BK146.out 0).trans rfl, (blk_cell BK146.out 1).trans rfl, (blk_cell BK146.out 2).trans rfl, (blk_cell BK146.out 3).trans rfl⟩ (fun hHeld => ?_); refine with_tabW record_Encode.tab5 record_Encode.bits5 (fun HT_ HW_ => ?_)
   generalize w16.drew = w17 at HO150 HO153 BK146 HB hHeld ⊢
   refine pure_ (i := 0) (N := some 19) (v := ?_) (a' := ?_) #[true, false, false, false, false, false, false, false, false] rfl rfl (any_of HT_.out (by kernel_rfl)) (fun _ _ _ h => h) (Or.inl ⟨by rfl, ?_⟩) ?_ ?_
   rotate_left
   ·
    intro w'
    go_simp
    with_reducible rfl
   rotate_left
   ·
    simp only [Act.put, List.setIfInBounds_toArray, List.set_cons_zero, List.set_cons_succ, i64_w, i32_w]
    rfl
   refine pure_ (i := 1) (N := some 20) (v := ?_) (a' := ?_) #[true, true, false, false, false, false, false, false, false] rfl rfl (any_of HT_.out (by kernel_rfl)) (fun _ _ _ h => h) (Or.inl ⟨by rfl, ?_⟩) ?_ ?_
   rotate_left
   ·
    intro w'
    go_simp
    with_reducible rfl
   rotate_left
   ·
    simp only [Act.put, List.setIfInBounds_toArray, List.set_cons_zero, List.set_cons_succ, i64_w, i32_w]
    rfl
   refine pure_ (i := 4) (N := some 23) (v := ?_) (a' := ?_) #[true, true, false, false, true, false, false, false, false] rfl rfl (any_of HT_.out (by kernel_rfl)) (fun _ _ _ h => h) (Or.inl ⟨by rfl, ?_⟩) ?_ ?_
   rotate_left
   ·
    intro w'
    go_simp
    with_reducible rfl
   rotate_left
   ·
    simp only [Act.put, List.setIfInBounds_toArray, List.set_cons_zero, List.set_cons_succ, i64_w, i32_w]
    rfl
   refine take_ (i := 2) (N := some 21) (v := ?_) (a' := ?_) #[true, true, true, false, true, false, false, false, false] rfl rfl (take_ofW HT_.out HW_.out (by kernel_rfl)) (fun _ _ _ h => h) (Or.inl ⟨by rfl, ?_⟩) hHeld ?_ ?_
   rotate_left
   ·
    rintro w' ⟨s0, s1, s2, s3⟩
    go_simp
    with_reducible rfl
   rotate_left
   ·
    simp only [Act.put, List.setIfInBounds_toArray, List.set_cons_zero, List.set_cons_succ, i64_w, i32_w]
    rfl
   refine take_ (i := 5) (N := some 24) (v := ?_) (a' := ?_) #[true, true, true, false, true, true, false, false, false] rfl rfl (take_ofW HT_.out HW_.out (by kernel_rfl)) (fun _ _ _ h => h) (Or.inl ⟨by rfl, ?_⟩) hHeld ?_ ?_
   rotate_left
   ·
    rintro w' ⟨s0, s1, s2, s3⟩
    go_simp
    with_reducible rfl
   rotate_left
   ·
    simp only [Act.put, List.setIfInBounds_toArray, List.set_cons_zero, List.set_cons_succ, i64_w, i32_w]
    rfl
   refine one_ (i := 3) (N := some 22) #[true, true, true, true, true, true, false, false, false] rfl rfl (one_of HT_.out (by kernel_rfl)) (by decide) (fun K hK => ?_)
   refine goes_ Try.func66 (by kernel_rfl) rfl #[.slice Ao18 t151.length co18, .string a0_2] (by rfl) rfl rfl (by (try simp only [List.map_toArray, List.map_cons, List.map_nil]); first | done | rfl | (simp only [List.length_drop, List.length_take]; rfl)) ?_
   with_reducible refine (pack_PutText.calls k _ _ t151 a0_2 t154 _ ?side1 ?side2 A6.out).mono ?_
   (case side1 => exact Hlp.cp (Kd.R_reads' HO153.out).2.2)
   (case side2 => exact (Kd.R_reads' HO153.out).2.1)
   rintro e w19 ⟨v155, rfl, ho0, hb⟩
   refine ⟨_, rfl, ?_⟩
   have HO156 := Aside0.mk (Kd.R_lower (Kd.R_new' (Kd.R_new' ho0 (Kd.R_lt (Hlp.rp HO150.out))) (Kd.R_lt (Hlp.rp HO153.out))) (below_size (Hlp.bl HB.out)))
   replace HO150 := Aside0.mk (Kd.R_elder' (Hlp.rp HO150.out) (Kd.R_base ho0) hb)
   replace HO153 := Aside0.mk (Kd.R_elder' (Hlp.rp HO153.out) (Kd.R_base ho0) hb)
   replace BK146 := Aside0.mk (blk_below (g := gb146) (o := .cells #[.int .i64 a0_0, .int .i64 a0_1, .string a0_2, .string a0_3] 23 (0, 0)) (Hlp.bp BK146.out) hb)
   replace HB := Aside0.mk (below_step (Hlp.bl HB.out) hb)
   (try clear hb)
   (try clear hb2)
   (try clear hk)
   (try clear hi)
   (try clear ho0)
   obtain ⟨Ao20, co20, eo20⟩ := Kd.R_slice HO156.out
   (first | subst eo20 | (injection eo20 with f1_ f2_ f3_; have f4_ := f1_.symm; have f5_ := f3_.symm; clear f1_ f2_ f3_; subst f4_; subst f5_))
   refine hK.out _ _ ⟨(blk_cell BK146.out 0).trans rfl, (blk_cell BK146.out 1).trans rfl, (blk_cell BK146.out 2).trans rfl, (blk_cell BK146.out 3).trans rfl⟩ (fun hHeld => ?_)
   clear hK K
   refine norm_ (a' := ?_) ?_ ?_
   rotate_left
   ·
    show Act.put _ (some 22) _ = _
    simp only [Act.put, List.setIfInBounds_toArray, List.set_cons_zero, List.set_cons_succ, i64_w, i32_w]
    rfl
   refine one_ (i := 6) (N := some 25) #[true, true, true, true, true, true, true, false, false] rfl rfl (one_of HT_.out (by kernel_rfl)) (by decide) (fun K hK => ?_)
   refine goes_ Try.func66 (by kernel_rfl) rfl #[.slice Ao20 t154.length co20, .string a0_3] (by rfl) rfl rfl (by (try simp only [List.map_toArray, List.map_cons, List.map_nil]); first | done | rfl | (simp only [List.length_drop, List.length_take]; rfl)) ?_
   with_reducible refine (pack_PutText.calls k _ _ t154 a0_3 t157 _ ?side1 ?side2 A7.out).mono ?_
   (case side1 => exact Hlp.cp (Kd.R_reads' HO156.out).2.2)
   (case side2 => exact (Kd.R_reads' HO156.out).2.1)
   rintro e w21 ⟨v158, rfl, ho0, hb⟩
   refine ⟨_, rfl, ?_⟩
   have HO159 := Aside0.mk (Kd.R_lower (Kd.R_new' (Kd.R_new' (Kd.R_new' ho0 (Kd.R_lt (Hlp.rp HO150.out))) (Kd.R_lt (Hlp.rp HO153.out))) (Kd.R_lt (Hlp.rp HO156.out))) (below_size (Hlp.bl HB.out)))
   replace HO150 := Aside0.mk (Kd.R_elder' (Hlp.rp HO150.out) (Kd.R_base ho0) hb)
   replace HO153 := Aside0.mk (Kd.R_elder' (Hlp.rp HO153.out) (Kd.R_base ho0) hb)
   replace HO156 := Aside0.mk (Kd.R_elder' (Hlp.rp HO156.out) (Kd.R_base ho0) hb)
   replace BK146 := Aside0.mk (blk_below (g := gb146) (o := .cells #[.int .i64 a0_0, .int .i64 a0_1, .string a0_2, .string a0_3] 23 (0, 0)) (Hlp.bp BK146.out) hb)
   replace HB := Aside0.mk (below_step (Hlp.bl HB.out) hb)
   (try clear hb)
   (try clear hb2)
   (try clear hk)
   (try clear hi)
   (try clear ho0)
   obtain ⟨Ao22, co22, eo22⟩ := Kd.R_slice HO159.out
   (first | subst eo22 | (injection eo22 with f1_ f2_ f3_; have f4_ := f1_.symm; have f5_ := f3_.symm; clear f1_ f2_ f3_; subst f4_; subst f5_))
   refine hK.out _ _ ⟨(blk_cell BK146.out 0).trans rfl, (blk_cell BK146.out 1).trans rfl, (blk_cell BK146.out 2).trans rfl, (blk_cell BK146.out 3).trans rfl⟩ (fun hHeld => ?_)
   clear hK K
   refine norm_ (a' := ?_) ?_ ?_
   rotate_left
   ·
    show Act.put _ (some 25) _ = _
    simp only [Act.put, List.setIfInBounds_toArray, List.set_cons_zero, List.set_cons_succ, i64_w, i32_w]
    rfl
   refine one_ (i := 7) (N := some 26) #[true, true, true, true, true, true, true, true, false] rfl rfl (one_of HT_.out (by kernel_rfl)) (by decide) (fun K hK => ?_)
   refine goes_ Try.func65 (by kernel_rfl) rfl #[.slice Ao22 t157.length co22] (by rfl) rfl rfl (by (try simp only [List.map_toArray, List.map_cons, List.map_nil]); first | done | rfl | (simp only [List.length_drop, List.length_take]; rfl)) ?_
   with_reducible refine (frame_Wrap.calls k _ _ t157 t160 _ ?side1 ?side2 A8.out).mono ?_
   (case side1 => exact Hlp.cp (Kd.R_reads' HO159.out).2.2)
   (case side2 => exact (Kd.R_reads' HO159.out).2.1)
   rintro e w23 ⟨v161, rfl, ho0, hb⟩
   refine ⟨_, rfl, ?_⟩
   have HO162 := Aside0.mk (Kd.R_lower (Kd.R_new' (Kd.R_new' (Kd.R_new' (Kd.R_new' ho0 (Kd.R_lt (Hlp.rp HO150.out))) (Kd.R_lt (Hlp.rp HO153.out))) (Kd.R_lt (Hlp.rp HO156.out))) (Kd.R_lt (Hlp.rp HO159.out))) (below_size (Hlp.bl HB.out)))
   replace HO150 := Aside0.mk (Kd.R_elder' (Hlp.rp HO150.out) (Kd.R_base ho0) hb)
   replace HO153 := Aside0.mk (Kd.R_elder' (Hlp.rp HO153.out) (Kd.R_base ho0) hb)
   replace HO156 := Aside0.mk (Kd.R_elder' (Hlp.rp HO156.out) (Kd.R_base ho0) hb)
   replace HO159 := Aside0.mk (Kd.R_elder' (Hlp.rp HO159.out) (Kd.R_base ho0) hb)
   replace BK146 := Aside0.mk (blk_below (g := gb146) (o := .cells #[.int .i64 a0_0, .int .i64 a0_1, .string a0_2, .string a0_3] 23 (0, 0)) (Hlp.bp BK146.out) hb)
   replace HB := Aside0.mk (below_step (Hlp.bl HB.out) hb)
   (try clear hb)
   (try clear hb2)
   (try clear hk)
   (try clear hi)
   (try clear ho0)
   refine hK.out _ _ ⟨(blk_cell BK146.out 0).trans rfl, (blk_cell BK146.out 1).trans rfl, (blk_cell BK146.out 2).trans rfl, (blk_cell BK146.out 3).trans rfl⟩ (fun hHeld => ?_)
   clear hK K
   refine norm_ (a' := ?_) ?_ ?_
   rotate_left
   ·
    show Act.put _ (some 26) _ = _
    simp only [Act.put, List.setIfInBounds_toArray, List.set_cons_zero, List.set_cons_succ, i64_w, i32_w]
    rfl
   refine pure_ (i := 8) (N := some 6) (v := ?_) (a' := ?_) #[true, true, true, true, true, true, true, true, true] rfl rfl (any_of HT_.out (by kernel_rfl)) (fun _ _ _ h => h) (Or.inl ⟨by rfl, ?_⟩) ?_ ?_
   rotate_left
   ·
    intro w'
    go_simp
    with_reducible rfl
   rotate_left
   ·
    simp only [Act.put, List.setIfInBounds_toArray, List.set_cons_zero, List.set_cons_succ, i64_w, i32_w]
    rfl
   refine done_ (done_of HT_.out (by kernel_rfl)) ?_
   obtain ⟨Ao24, co24, eo24⟩ := Kd.R_slice HO162.out
   subst eo24
   try go_wp2_with (first | ((with_reducible refine gate_dst (N := 29) rfl ?_); refine Kd.R_make (Kd.int .u8) _ 5 ?hg (N := 29) ?hd 28 (.tmp 28) (.tmp 28) ?ho (((t160.length : Nat) : Int)) ?hx ?hy Try.underlying28 (.int .u8 0) 1 info5 rfl (by decide) (by decide) (0 : Int) (ok := fun _ => True) (okp := fun _ => True) ?hz (fun _ hk => hk) trivial ?h0 ?hl (Below.refl _ _) (Nat.le_refl _) ?_; (case hd => rfl); (case hg => rfl); (case ho => rfl); (case hx => first | rfl | (go_simp; done)); (case hy => first | rfl | (go_simp; done)); (case hz => exact Hlp.zero_u8 _ _ _); (case h0 => omega); (case hl => have := LMc9.out; omega); intro v164 w25 ho26 hb hg_ hnew_; clear hg_ hnew_; have HO165 := Aside0.mk (Kd.R_lower (Kd.R_new' (Kd.R_new' (Kd.R_new' (Kd.R_new' (Kd.R_new' ho26 (Kd.R_lt (Hlp.rp HO150.out))) (Kd.R_lt (Hlp.rp HO153.out))) (Kd.R_lt (Hlp.rp HO156.out))) (Kd.R_lt (Hlp.rp HO159.out))) (Kd.R_lt (Hlp.rp HO162.out))) (below_size (Hlp.bl HB.out))); replace HO150 := Aside0.mk (Kd.R_elder' (Hlp.rp HO150.out) (Kd.R_base ho26) hb); replace HO153 := Aside0.mk (Kd.R_elder' (Hlp.rp HO153.out) (Kd.R_base ho26) hb); replace HO156 := Aside0.mk (Kd.R_elder' (Hlp.rp HO156.out) (Kd.R_base ho26) hb); replace HO159 := Aside0.mk (Kd.R_elder' (Hlp.rp HO159.out) (Kd.R_base ho26) hb); replace HO162 := Aside0.mk (Kd.R_elder' (Hlp.rp HO162.out) (Kd.R_base ho26) hb); replace BK146 := Aside0.mk (blk_below (g := gb146) (o := .cells #[.int .i64 a0_0, .int .i64 a0_1, .string a0_2, .string a0_3] 23 (0, 0)) (Hlp.bp BK146.out) hb); replace HB := Aside0.mk (below_step (Hlp.bl HB.out) hb); clear hb ho26) | ((with_reducible refine gate_builtin (b := .copy) (xs := #[.tmp 30, .tmp 31]) rfl ?_); refine Kd.R_copy (enc := Value.int .u8) (h1 := fun _ => rfl) (0 : Int) (w0 := w) w.heap.size rfl (.tmp 30) (.tmp 31) 28 28 5 rfl Try.underlying28 ?gi v164 (List.replicate (((t160.length : Nat) : Int)).toNat (0 : Int)) t160 _ _ _ (fun _ => True) rfl rfl ?gO ?aR ?gB ?gb ?_; (case gi => kernel_rfl); (case aR => exact Hlp.cp (Kd.R_reads' HO162.out).2.2); (case gO => exact Kd.R_mono HO165.out (fun _ _ => trivial)); (case gB => exact HB.out); (case gb => exact HB.out.size); intro w27 ho hb hg; rw [Hlp.copied t160 t160.length (((t160.length : Nat) : Int)).toNat rfl rfl, show t160 = y166 from (by rw [Ny166.out, Ny163.out]; rfl)] at ho; have n0_ := Aside0.mk (hb); have n1_ := Aside0.mk (ho); clear HB; clear HO165; have HB := n0_; have HO168 := n1_; clear n0_ n1_; clear ho hb hg))
   go_ret2
   exact ⟨_, by first | rfl | (simp [errW_none, errW_some] <;> rfl) | (simp [*, errW_none, errW_some] <;> rfl), by (with_reducible repeat (first | apply Kd.R_alloc | apply Kd.R_drewN | apply Kd.R_drew)); exact Kd.R_mono HO168.out (fun _ hk => trivial), Hlp.bl HB.out⟩
  ·
   rw [if_neg c9] at H
   exact absurd H (by simp)
 ·
  rw [if_neg c3] at H
  have c3b0 : (t147 == 0) = false := beq_eq_false_iff_ne.mpr c3
  have c3b1 : (t147 != 0) = true := bne_iff_ne.mpr c3
  simp only [Option.some.injEq, Prod.mk.injEq] at H
  obtain ⟨rfl, rfl⟩ := H
  go_enter Try.func25, Try.ntmps25
  go_wp2_with (first | ((with_reducible refine gate_dst (N := 1) rfl ?_); refine Hlp.bx (N := 1) (cs := #[.int .i64 a0_0, .int .i64 a0_1, .string a0_2, .string a0_3]) (t := 23) ?_; intro gb146 hg w28 hbox hb; have BK146 := Aside0.mk (hbox); have GW146 := Aside0.mk ((by rw [hg]; exact (below_size (Hlp.bl HB.out)) : w.heap.size ≤ gb146)); have GE146 := Aside0.mk ((by rw [hg]; exact (below_size (Hlp.bl HB.out)) : w.heap.size ≤ gb146)); replace HB := Aside0.mk (below_step (Hlp.bl HB.out) hb); clear hb hbox hg; have hcz29_0 : w28.cell? ⟨gb146, 0, none⟩ = some (.int .i64 a0_0) := (blk_cell BK146.out 0).trans rfl; have hcz29_1 : w28.cell? ⟨gb146, 1, none⟩ = some (.int .i64 a0_1) := (blk_cell BK146.out 1).trans rfl; have hcz29_2 : w28.cell? ⟨gb146, 2, none⟩ = some (.string a0_2) := (blk_cell BK146.out 2).trans rfl; have hcz29_3 : w28.cell? ⟨gb146, 3, none⟩ = some (.string a0_3) := (blk_cell BK146.out 3).trans rfl; have hfz29_0 := blk_frozen BK146.out 0; have hfz29_1 := blk_frozen BK146.out 1; have hfz29_2 := blk_frozen BK146.out 2; have hfz29_3 := blk_frozen BK146.out 3) | ((with_reducible refine gate_callee (f := 22) rfl ?_); refine Hlp.gl (some 9) Try.func22 #[.agg #[.int .i64 a0_0, .int .i64 a0_1, .string a0_2, .string a0_3]] ?_; (with_reducible refine (record_Check.calls k a0_0 a0_1 a0_2 a0_3 t147 _ A2.out).mono ?_); rintro e w30 ⟨rfl, hb⟩; refine ⟨_, rfl, ?_⟩; replace BK146 := Aside0.mk (blk_below (g := gb146) (o := .cells #[.int .i64 a0_0, .int .i64 a0_1, .string a0_2, .string a0_3] 23 (0, 0)) (Hlp.bp BK146.out) hb); replace HB := Aside0.mk (below_step (Hlp.bl HB.out) hb); (try clear hb); (try clear hb2); (try clear hk); (try clear hi)))
  go_ret2
  exact ⟨_, by first | rfl | (simp [errW_none, errW_some] <;> rfl) | (simp [*, errW_none, errW_some] <;> rfl), by first | exact Kd.R_nil _ _ _ _ _ | exact Kd.N_nil _ _ _ _ _ | exact Kd.V_nil _ _ _ _ _ | exact Kd.Q_nil _ _ _ _ _ | exact Kd.S_nil _ _ _ _ _, Hlp.bl HB.out⟩

end Go.Proofs.Ytkkelbakadbbhaa.J
