/- Lemmas on the machine's steps that the printed texts of this seat use beside the words: a slice made with a capacity, a cut with a capacity. -/
import Derived.Test.YtkkelbakadbbhaaWords
import Derived.Scope
set_option linter.unusedVariables false
set_option linter.unusedSimpArgs false
namespace Go.Proofs.Ytkkelbakadbbhaa.Hlp
open Go.RowKit Go.Proofs.YtkkelbakadbbhaaW.PrintWords Go.Proofs.YtkkelbakadbbhaaW.PrintLast
section
variable {P : Program} {ops : Array Oper} {rest : List Oper} {o : Oper} {a : Act} {Q : Exit → Act → World → Prop} {α : Type}
/-- make([]T, n, c): n zeros, room for c. -/
theorem R_make_cap (d : Kd α) {w0 W : World} (base e : Nat) (hgd : o.guard = none) {N : Tmp} (hd : o.dst = some N) (t : TypeId) (x y : Operand) (ho : o.op = .makeSlice t x y) (n c : Int) (hx : a.eval x = .int .i64 n) (hy : a.eval y = .int .i64 c)
    (ht : P.underlying t = some (.slice e)) (z : Value) (bytes : Nat) (hinfo : (P.info? e).map (fun i => (i.zero, i.size, i.bytes)) = some (some z, d.sz, bytes)) (hz : z.cells.size = d.sz) (hs0 : 0 < d.sz) (hb0 : 0 < bytes)
    (z0 : α) {ok okp : Nat → Prop} (hzero : d.M W base okp z0 z.cells.toList) (hok : ∀ k, okp k → ok k) (hfresh : ok W.heap.size) (h0 : 0 ≤ n) (hnc : n ≤ c) (hl : c.toNat * bytes ≤ 281474976710656) (HB : Below base w0 W) (hbase : base ≤ W.heap.size)
    (h : ∀ v1 w1, d.R e w1 base ok v1 (List.replicate n.toNat z0) → Below base w0 w1 → W.grownBy w1 none → (∃ b, v1.ownBlock = some b ∧ W.heap.size ≤ b) → wpList P ops Q rest (a.put o.dst v1) w1) : wpList P ops Q (o :: rest) a W := by
  obtain ⟨m, rfl⟩ := Int.eq_ofNat_of_zero_le h0
  obtain ⟨q, rfl⟩ := Int.eq_ofNat_of_zero_le (Int.le_trans h0 hnc)
  simp only [Int.toNat_natCast] at hl h
  obtain ⟨i0, hi, hzz⟩ := Option.map_eq_some_iff.1 hinfo
  simp only [Prod.mk.injEq] at hzz
  obtain ⟨hz0, hz1, hz2⟩ := hzz
  have hm : q ≤ 281474976710656 := Nat.le_trans (Nat.le_mul_of_pos_right _ hb0) hl
  have hmq : m ≤ q := by omega
  have hr := run_make (P := P) W t e i0 z ht hi hz0 .i64 .i64 (m : Int) (q : Int) (by omega) (by omega)
    (by
      have h3 : ((i0.bytes * q : Nat) : Int) ≤ 281474976710656 := by rw [hz2, Nat.mul_comm]; omega
      rwa [Int.natCast_mul] at h3) (by omega)
  simp only [Int.toNat_natCast] at hr
  rw [hz1] at hr
  have hrep := Kd.reps_made hz hs0 hzero q
  have hfull : d.R e (W.alloc (.cells (madeCells z.cells (q * d.sz)) e)) base ok (.slice (some ⟨W.heap.size, 0, none⟩) q q) (List.replicate q z0) := by
    refine ⟨fun k hk => ?_, (madeCells z.cells (q * d.sz)).toList, ?_, ?_⟩
    · have : W.heap.size = k := by simpa [Value.ownBlock] using hk
      subst this
      exact hfresh
    · have h2 := World.ownsRow_lit (base := base) (e := e) (size := d.sz) W (madeCells z.cells (q * d.sz)) q hbase (by simpa [maxLen] using (by omega : q ≤ 9223372036854775807)) (size_madeCells _ _)
      simpa using h2
    · refine hrep.imp_ (fun p c hp => d.M_mono (fun k hk => ⟨hok k hk.1, fun he => ?_⟩) (Kd.M_below (d.M_bound hp) (below_alloc (Below.refl _ _) _)))
      have h3 : k = W.heap.size := by simpa [Value.ownBlock] using he
      have := hk.2.2.1
      omega
  have hrow := Kd.R_take (m := m) hfull (by simpa using hmq)
  rw [List.take_replicate, Nat.min_eq_left hmq] at hrow
  refine Kd.event_run hgd (v := .slice (some ⟨W.heap.size, 0, none⟩) m q) (w1 := W.alloc (.cells (madeCells z.cells (q * d.sz)) e)) ?_ (h _ _ hrow (HB.alloc hbase _) (World.grownBy_alloc W _ none) ⟨W.heap.size, by simp [Value.ownBlock], Nat.le_refl _⟩)
  simp [execOp, ho, hx, hy, hr]
end
section
variable {P : Program}
/-- 'xs[a:b:b]' of a slice that is read. -/
theorem print_mid3_of {α : Type} (enc : α → Value) (d : α) (t e : TypeId) (kl kh km : IntKind) {i : TypeInfo} (ht : P.underlying t = some (.slice e)) (hi : P.info? e = some i) (hsz : i.size = 1) (A : Option Addr) (c : Nat) (xs : List α) (a b : Int) (h0 : 0 ≤ a) (h1 : a ≤ b) (hm : b ≤ xs.length) (hc : xs.length ≤ c) :
    ∃ A' : Option Addr, (∀ W : World, (Instr.slice t (.slice A xs.length c) (some (.int kl a)) (some (.int kh b)) (some (.int km b))).run P W = .ok (.slice A' ((xs.take b.toNat).drop a.toNat).length ((xs.take b.toNat).drop a.toNat).length) W) ∧
      (∀ w : World, ReadsOf enc d w A xs.length xs → ReadsOf enc d w A' ((xs.take b.toNat).drop a.toNat).length ((xs.take b.toNat).drop a.toNat)) ∧ ((xs.take b.toNat).drop a.toNat).length ≤ ((xs.take b.toNat).drop a.toNat).length := by
  have hlt : (xs.take b.toNat).length = b.toNat := by rw [List.length_take]; omega
  have hl : ((xs.take b.toNat).drop a.toNat).length = b.toNat - a.toNat := by rw [List.length_drop, hlt]
  refine ⟨if b.toNat = a.toNat then A else A.map (·.add a.toNat), fun W => ?_, fun w h => ?_, Nat.le_refl _⟩
  · have hel : P.elem t = e := by simp [Program.elem, ht]
    have hu : P.underlying t = some (.slice (P.elem t)) := by rw [hel]; exact ht
    rw [run_slice_lhm W t A xs.length c hu kl kh km a b b h0 h1 (Int.le_refl _) (by omega), hel, hl]
    simp [sizeOf, typeInfo, hi, hsz, sliced, Result.andThen]
  · have h2 := (h.take_ b.toNat (by omega)).drop_ (c := b.toNat) a.toNat (by omega) (by omega)
    rw [hl]
    exact h2
end
section
variable {P : Program} {ops : Array Oper} {rest : List Oper} {o : Oper} {a : Act} {Q : Exit → Act → World → Prop} {α : Type}
/-- copy(out[k:], ys), where out is a row of one's own. -/
theorem R_copy_tail {enc : α → Value} {h1 : ∀ x, (enc x).oneCell' = true} (d : α) {w0 W : World} (base : Nat) (hgd : o.guard = none) (s x : Operand) (t t' e : TypeId)
    (ho : o.op = .call { callee := .builtin .copy, args := #[s, x], argTypes := #[t, t'] }) (ht : P.underlying t = some (.slice e)) (hinfo : (P.info? e).map (·.size) = some 1)
    (A0 A2 : Option Addr) (c0 k : Nat) (xs ys : List α) (A : Option Addr) (m c : Nat) (ok : Nat → Prop) (n2 c2 : Nat) (hn2 : n2 = xs.length - k) (hk : k ≤ xs.length) (hA2 : 0 < xs.length - k → A2 = A0.map (fun x => x.add k))
    (hs : a.eval s = .slice A2 n2 c2) (hx : a.eval x = .slice A m c)
    (HO : (Kd.scalar enc h1).R e W base ok (.slice A0 xs.length c0) xs) (HR : (Kd.scalar enc h1).C W A m ys) (HB : Below base w0 W) (hbase : base ≤ W.heap.size)
    (h : ∀ w1, (Kd.scalar enc h1).R e w1 base ok (.slice A0 xs.length c0) (xs.take k ++ (ys.take (min m (xs.length - k)) ++ xs.drop (k + min m (xs.length - k)))) → Below base w0 w1 → W.grownBy w1 (Value.slice A0 xs.length c0).ownBlock → wpList P ops Q rest (a.put o.dst (.int .i64 ((min m (xs.length - k) : Nat) : Int))) w1) :
    wpList P ops Q (o :: rest) a W := by
  have hR := Kd.reads_of_C (enc := enc) (d := d) (h1 := h1) HR
  subst hn2
  have hm : ys.length = m := hR.1
  have hown := Kd.own_of_R HO
  have fin : ∀ w1, (Builtin.copy_ #[t, t'] o.type #[.slice A2 (xs.length - k) c2, .slice A m c]).run P W = .ok (goInt ((min m (xs.length - k) : Nat) : Int)) w1 → (Kd.scalar enc h1).R e w1 base ok (.slice A0 xs.length c0) (xs.take k ++ (ys.take (min m (xs.length - k)) ++ xs.drop (k + min m (xs.length - k)))) → W.grownBy w1 (Value.slice A0 xs.length c0).ownBlock → wpList P ops Q (o :: rest) a W := by
    intro w1 hr hrow hg
    refine wpList_plain hgd fun K hK => ?_
    unfold Oper.wp execOp
    simp only [ho, resolve, invoke, builtin, Sem.run_bind, Sem.run_pure, Result.andThen_ok, List.map_toArray, List.map_cons, List.map_nil, hs, hx, hr]
    exact hK _ _ (h w1 hrow (HB.grown hg hbase (own_base hown)) hg)
  rcases Nat.eq_zero_or_pos (min m (xs.length - k)) with h0 | hp
  · refine fin W ?_ (by rw [h0, List.take_zero, List.nil_append, Nat.add_zero, List.take_append_drop]; exact HO) (World.grownBy.refl W _)
    rw [h0]
    exact run_copy_none W t t' o.type e A2 A (xs.length - k) c2 m c ht hinfo h0
  · obtain ⟨ad, hA, hc⟩ := hR.2.2 (by omega)
    rcases hown.2 with ⟨_, hx0⟩ | ⟨g, cap, cur, hv, hb, hh, hnc, hcm, hcs, htake⟩
    · omega
    simp only [Value.slice.injEq, true_and] at hv
    obtain ⟨rfl, rfl⟩ := hv
    have hcs1 : cur.size = c0 := by omega
    have hA3 : A2 = some ⟨g, k, none⟩ := by
      rw [hA2 (by omega)]
      show some (Addr.add ⟨g, 0, none⟩ k) = _
      unfold Addr.add
      by_cases hk0 : k = 0
      · rw [if_pos hk0, hk0]
      · rw [if_neg hk0]; simp
    have hsrc : ∀ j u, (encs enc (ys.take (min m (xs.length - k))))[j]? = some u → W.cell? (ad.add j) = some u := by
      intro j u hu
      have hj : j < (ys.take (min m (xs.length - k))).length := by
        rcases Nat.lt_or_ge j (ys.take (min m (xs.length - k))).length with h | h
        · exact h
        · rw [List.getElem?_eq_none (by rw [encs_length]; exact h)] at hu
          cases hu
      have hjm : j < min m (xs.length - k) := by rw [List.length_take] at hj; omega
      rw [encs_get (d := d) _ j hj] at hu
      rw [hc j (by omega), ← hu]
      simp [List.getD_eq_getElem?_getD, hjm]
    have hkl : (encs enc (ys.take (min m (xs.length - k)))).length = min m (xs.length - k) := by rw [encs_length, List.length_take]; omega
    have hr := run_copy_cells (P := P) W t t' o.type e g k (xs.length - k) c2 ad m c (encs enc (ys.take (min m (xs.length - k)))) ht hinfo (by rw [hkl]) hsrc
      (fun j hj => by rw [cell_of_row W g _ cur e (0, 0) hh]; simp; omega) (fun j _ => blk_frozen hh _) (by intro u hu; simp only [encs, List.mem_map] at hu; obtain ⟨q, _, rfl⟩ := hu; exact h1 q)
    obtain ⟨cur', h3, h4, h5⟩ := setCells_row (encs enc (ys.take (min m (xs.length - k)))) k W cur hh (by rw [hkl]; omega)
    obtain ⟨s1, s2, s3, s4⟩ := setCells_same g (encs enc (ys.take (min m (xs.length - k)))) k W
    refine fin _ (by rw [hA3, hA, hr, hkl]) (Kd.R_of_own ?_ HO.1) ⟨s1, s2, s3, by rw [s4]; exact Nat.le_refl _, fun k' _ hk' => setCells_far _ _ k' (fun he => hk' (by rw [he]; simp [Value.ownBlock]))⟩
    have hln : (xs.take k ++ (ys.take (min m (xs.length - k)) ++ xs.drop (k + min m (xs.length - k)))).length = xs.length := by
      simp only [List.length_append, List.length_take, List.length_drop]
      omega
    rw [hln]
    refine ⟨by rw [encs_length, hln, Nat.mul_one], .inr ⟨g, c0, cur', rfl, hb, h3, hnc, hcm, by rw [h4, hcs], ?_⟩⟩
    have htk : cur.toList.take xs.length = encs enc xs := by rw [← htake, Nat.mul_one]
    have hd1 : encs enc (xs.take k) = (encs enc xs).take k := by simp [encs, List.map_take]
    have hd2 : encs enc (xs.drop (k + min m (xs.length - k))) = (encs enc xs).drop (k + min m (xs.length - k)) := by simp [encs, List.map_drop]
    have hcl : cur.toList.length = c0 := by simpa using hcs1
    rw [h5, hkl, encs_append, encs_append, Nat.mul_one, hd1, hd2, ← htk]
    rw [List.take_take, List.drop_take, Nat.min_eq_left hk]
    rw [List.append_assoc, List.take_append, List.length_take, Nat.min_eq_left (by omega), List.take_of_length_le (by rw [List.length_take]; omega)]
    congr 1
    rw [List.take_append, hkl, List.take_of_length_le (by rw [hkl]; omega)]
    congr 1
    congr 1
    omega
theorem filled (l0 l1 : List Int) : l0.take (min l0.length (List.replicate ((l0.length : Int) + (l1.length : Int)).toNat (0 : Int)).length) ++ (List.replicate ((l0.length : Int) + (l1.length : Int)).toNat (0 : Int)).drop (min l0.length (List.replicate ((l0.length : Int) + (l1.length : Int)).toNat (0 : Int)).length) = l0 ++ List.replicate l1.length (0 : Int) := by
  have h : ((l0.length : Int) + (l1.length : Int)).toNat = l0.length + l1.length := by omega
  rw [h, List.length_replicate, Nat.min_eq_left (by omega), List.take_length, List.drop_replicate]
  congr 2; omega
theorem filled2 (l0 l1 : List Int) : (l0 ++ List.replicate l1.length (0 : Int)).take l0.length ++ (l1.take (min l1.length ((l0 ++ List.replicate l1.length (0 : Int)).length - l0.length)) ++ (l0 ++ List.replicate l1.length (0 : Int)).drop (l0.length + min l1.length ((l0 ++ List.replicate l1.length (0 : Int)).length - l0.length))) = l0 ++ l1 := by
  have h : (l0 ++ List.replicate l1.length (0 : Int)).length = l0.length + l1.length := by simp
  rw [h, Nat.add_sub_cancel_left, Nat.min_self, List.take_left, List.take_length, List.drop_of_length_le (by rw [h]; omega), List.append_nil]
end
theorem scope_same {P : Program} {Q : Exit → Act → World → Prop} {a : Act} {w : World} {c : Code} (hg : ∀ l a w, ¬ Q (.goto l) a w) (h : c.wp P Q a w) : (Code.scope c).wp P Q a w :=
  wp_scope_straight (wp_mono h (fun e a w hq => by cases e <;> first | exact hq | exact (hg _ _ _ hq).elim))
/-! ### Short forms: what the printed texts show by a row of tactics is shown by a default argument -/
/-- W' is W but for numbers drawn and new blocks. -/
inductive Peel : World → World → Prop where
  | refl (w : World) : Peel w w
  | drew {w w' : World} (p : Peel w w') : Peel w w'.drew
  | drewN {w w' : World} (p : Peel w w') (m : Nat) : Peel w (w'.drewN m)
  | alloc {w w' : World} (p : Peel w w') (o : Obj) : Peel w (w'.alloc o)
theorem rp {α : Type} {d : Kd α} {e base : Nat} {w w' : World} {ok : Nat → Prop} {v : Value} {xs : List α} (h : d.R e w base ok v xs) (p : Peel w w' := by repeat (first | (with_reducible first | exact _root_.Go.Proofs.Ytkkelbakadbbhaa.Hlp.Peel.refl _ | apply _root_.Go.Proofs.Ytkkelbakadbbhaa.Hlp.Peel.alloc | apply _root_.Go.Proofs.Ytkkelbakadbbhaa.Hlp.Peel.drewN | apply _root_.Go.Proofs.Ytkkelbakadbbhaa.Hlp.Peel.drew) | exact _root_.Go.Proofs.Ytkkelbakadbbhaa.Hlp.Peel.refl _)) : d.R e w' base ok v xs := by
  induction p with
  | refl => exact h
  | drew _ ih => exact Kd.R_drew ih
  | drewN _ m ih => exact Kd.R_drewN ih m
  | alloc _ o ih => exact Kd.R_alloc ih o
theorem cp {α : Type} {d : Kd α} {w w' : World} {A : Option Addr} {n : Nat} {xs : List α} (h : d.C w A n xs) (p : Peel w w' := by repeat (first | (with_reducible first | exact _root_.Go.Proofs.Ytkkelbakadbbhaa.Hlp.Peel.refl _ | apply _root_.Go.Proofs.Ytkkelbakadbbhaa.Hlp.Peel.alloc | apply _root_.Go.Proofs.Ytkkelbakadbbhaa.Hlp.Peel.drewN | apply _root_.Go.Proofs.Ytkkelbakadbbhaa.Hlp.Peel.drew) | exact _root_.Go.Proofs.Ytkkelbakadbbhaa.Hlp.Peel.refl _)) : d.C w' A n xs := by
  induction p with
  | refl => exact h
  | drew _ ih => exact Kd.C_drew ih
  | drewN _ m ih => exact Kd.C_drewN ih m
  | alloc _ o ih => exact Kd.C_alloc ih o
theorem bp {w w' : World} {g : Nat} {o : Obj} (h : w.heap[g]? = some o) (p : Peel w w' := by repeat (first | (with_reducible first | exact _root_.Go.Proofs.Ytkkelbakadbbhaa.Hlp.Peel.refl _ | apply _root_.Go.Proofs.Ytkkelbakadbbhaa.Hlp.Peel.alloc | apply _root_.Go.Proofs.Ytkkelbakadbbhaa.Hlp.Peel.drewN | apply _root_.Go.Proofs.Ytkkelbakadbbhaa.Hlp.Peel.drew) | exact _root_.Go.Proofs.Ytkkelbakadbbhaa.Hlp.Peel.refl _)) : w'.heap[g]? = some o := by
  induction p with
  | refl => exact h
  | drew _ ih => exact blk_drew ih
  | drewN _ m ih => exact blk_drewN ih m
  | alloc _ o' ih => exact blk_alloc ih o'
inductive PeelB (b : Nat) : World → World → Prop where
  | refl (w : World) : PeelB b w w
  | drew {w w' : World} (p : PeelB b w w') : PeelB b w w'.drew
  | drewN {w w' : World} (p : PeelB b w w') (m : Nat) : PeelB b w (w'.drewN m)
  | alloc {w w' : World} (p : PeelB b w w') (o : Obj) : PeelB b w (w'.alloc o)
  | set {w w' : World} {g : Nat} (p : PeelB b w w') (hg : Aside0 (b ≤ g)) (j : Nat) (v : Value) : PeelB b w (w'.setCell ⟨g, j, none⟩ v)
theorem bl {w W W' : World} (h : Below w.heap.size w W) (p : PeelB w.heap.size W W' := by repeat (first | (with_reducible first | exact _root_.Go.Proofs.Ytkkelbakadbbhaa.Hlp.PeelB.refl _ | apply _root_.Go.Proofs.Ytkkelbakadbbhaa.Hlp.PeelB.alloc | apply _root_.Go.Proofs.Ytkkelbakadbbhaa.Hlp.PeelB.drewN | apply _root_.Go.Proofs.Ytkkelbakadbbhaa.Hlp.PeelB.drew | refine _root_.Go.Proofs.Ytkkelbakadbbhaa.Hlp.PeelB.set ?_ (by assumption) _ _) | exact _root_.Go.Proofs.Ytkkelbakadbbhaa.Hlp.PeelB.refl _)) : Below w.heap.size w W' := by
  induction p with
  | refl => exact h
  | drew _ ih => exact below_drew1 ih
  | drewN _ m ih => exact pw_below_drewN ih m
  | alloc _ o ih => exact below_alloc ih o
  | set _ hg j v ih => exact below_set ih hg.out
section
variable {P : Program} {ops : Array Oper} {Q : Exit → Act → World → Prop}
theorem gl {rest : List Oper} {oi : Oper} {a : Act} {w : World} (N : Option Tmp) {f : FuncId} {fn : Func} {as : Array Operand} {ts : Array TypeId} (hf : P.funcs[f]? = some fn) (args : Array Value)
    (h : Calls P f args w fun e w' => ∃ v, e = .returned v ∧ wpList P ops Q rest (a.put N v) w')
    (hop : oi.op = .call { callee := .value (.func f), args := as, argTypes := ts } := by rfl) (hd : oi.dst = N := by rfl) (hg : oi.guard = none := by rfl) (hname : (fn.name == "runtime.NumGoroutine") = false := by kernel_rfl) (hb : fn.body.isSome = true := by rfl)
    (hargs : as.map a.eval = args := by (try simp only [List.map_toArray, List.map_cons, List.map_nil]); first | done | rfl | (simp only [List.length_drop, List.length_take]; rfl)) : wpList P ops Q (oi :: rest) a w :=
  goesL_ N hd hg hf hname hb args hop hargs h
end
section
variable {P : Program} {ops : Array Oper} {rest : List Oper} {o : Oper} {a : Act} {Q : Exit → Act → World → Prop}
theorem bx {W : World} {N : Tmp} {cs : Array Value} {t : TypeId}
    (h : ∀ g, g = W.heap.size → ∀ w1, w1.heap[g]? = some (.cells cs t (0, 0)) → Below W.heap.size W w1 → wpList P ops Q rest (a.put o.dst (.pointer (some ⟨g, 0, none⟩))) w1)
    (hd : o.dst = some N := by rfl) (hgd : o.guard = none := by rfl) (hrun : (execOp a.eval o).run P W = .ok (.value (.pointer (some ⟨W.heap.size, 0, none⟩))) (W.alloc (.cells cs t (0, 0))) := by first | (go_simp; done) | (go_simp; rfl)) : wpList P ops Q (o :: rest) a W :=
  box_event hgd hd hrun h
end
theorem zero_u8 (w : World) (base : Nat) (ok : Nat → Prop) : (Kd.int .u8).M w base ok 0 (Value.int .u8 0).cells.toList := by
  show (Value.int .u8 0).cells.toList = [Value.int .u8 0]
  rfl
theorem copied (ys : List Int) (m n : Nat) (hm : m = n) (hn : ys.length = n) : ys.take (min m (List.replicate n (0 : Int)).length) ++ (List.replicate n (0 : Int)).drop (min m (List.replicate n (0 : Int)).length) = ys := by
  subst hm; subst hn; simp
theorem next_n {n : Int} (h0 : ¬ n < 0) (h1 : ¬ 65536 < n) : 0 ≤ n ∧ n ≤ 65536 := by omega
theorem next_len (l : List Int) {j n : Int} (h0 : 0 ≤ j) (h1 : j ≤ wrap64 (j + n)) (h2 : wrap64 (j + n) ≤ (l.length : Int)) (hn : 0 ≤ n ∧ n ≤ 65536) : ((l.take (wrap64 (j + n) : Int).toNat).drop (j : Int).toNat).length = n.toNat := by
  rw [List.length_drop, List.length_take]
  unfold wrap64 at *
  omega
theorem cut_len (l : List Int) (lo hi : Int) (h : hi ≤ (l.length : Int)) : ((l.take hi.toNat).drop lo.toNat).length = hi.toNat - lo.toNat := by
  rw [List.length_drop, List.length_take]
  omega
theorem cut_four (l : List Int) (lo hi : Int) (h : hi ≤ (l.length : Int)) (h3 : (3 : Int) < (((l.take hi.toNat).drop lo.toNat).length : Int)) : 3 < hi.toNat - lo.toNat := by
  rw [cut_len l lo hi h] at h3
  omega
end Go.Proofs.Ytkkelbakadbbhaa.Hlp
