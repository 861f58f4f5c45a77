/- Lemmas on the machine's steps that the printed texts of this seat use beside the words: a slice made with a capacity, a cut with a capacity. -/
import Derived.Test.YtkklehfcadkikaaWWords
import Derived.Test.YtkklehfcadkikaaWMore
set_option linter.unusedVariables false
set_option linter.unusedSimpArgs false
namespace Go.Proofs.Ytkklehfcadkikaa.Hlp
open Go.RowKit Go.Proofs.YtkklehfcadkikaaW.PrintWords
section
variable {P : Program} {ops : Array Oper} {rest : List Oper} {o : Oper} {a : Act} {Q : Exit → Act → World → Prop} {α : Type}
/-- make([]T, n, c): n zeros, room for c. -/
theorem R_make_cap (d : Kd α) {w0 W : World} (base e : Nat) (hgd : o.guard = none) {N : Tmp} (hd : o.dst = some N) (t : TypeId) (x y : Operand) (ho : o.op = .makeSlice t x y) (n c : Int) (hx : a.eval x = .int .i64 n) (hy : a.eval y = .int .i64 c)
    (ht : P.underlying t = some (.slice e)) (z : Value) (bytes : Nat) (hinfo : (P.info? e).map (fun i => (i.zero, i.size, i.bytes)) = some (some z, d.sz, bytes)) (hz : z.cells.size = d.sz) (hs0 : 0 < d.sz) (hb0 : 0 < bytes)
    (z0 : α) {ok okp : Nat → Prop} (hzero : d.M W base okp z0 z.cells.toList) (hok : ∀ k, okp k → ok k) (hfresh : ok W.heap.size) (h0 : 0 ≤ n) (hnc : n ≤ c) (hl : c.toNat * bytes ≤ 281474976710656) (HB : Below base w0 W) (hbase : base ≤ W.heap.size)
    (h : ∀ v1 w1, d.R e w1 base ok v1 (List.replicate n.toNat z0) → Below base w0 w1 → W.grownBy w1 none → (∃ b, v1.ownBlock = some b ∧ W.heap.size ≤ b) → wpList P ops Q rest (a.put o.dst v1) w1) : wpList P ops Q (o :: rest) a W := by
  obtain ⟨m, rfl⟩ := Int.eq_ofNat_of_zero_le h0
  obtain ⟨q, rfl⟩ := Int.eq_ofNat_of_zero_le (Int.le_trans h0 hnc)
  simp only [Int.toNat_natCast] at hl h
  obtain ⟨i0, hi, hzz⟩ := Option.map_eq_some_iff.1 hinfo
  simp only [Prod.mk.injEq] at hzz
  obtain ⟨hz0, hz1, hz2⟩ := hzz
  have hm : q ≤ 281474976710656 := Nat.le_trans (Nat.le_mul_of_pos_right _ hb0) hl
  have hmq : m ≤ q := by omega
  have hr := run_make (P := P) W t e i0 z ht hi hz0 .i64 .i64 (m : Int) (q : Int) (by omega) (by omega)
    (by
      have h3 : ((i0.bytes * q : Nat) : Int) ≤ 281474976710656 := by rw [hz2, Nat.mul_comm]; omega
      rwa [Int.natCast_mul] at h3) (by omega)
  simp only [Int.toNat_natCast] at hr
  rw [hz1] at hr
  have hrep := Kd.reps_made hz hs0 hzero q
  have hfull : d.R e (W.alloc (.cells (madeCells z.cells (q * d.sz)) e)) base ok (.slice (some ⟨W.heap.size, 0, none⟩) q q) (List.replicate q z0) := by
    refine ⟨fun k hk => ?_, (madeCells z.cells (q * d.sz)).toList, ?_, ?_⟩
    · have : W.heap.size = k := by simpa [Value.ownBlock] using hk
      subst this
      exact hfresh
    · have h2 := World.ownsRow_lit (base := base) (e := e) (size := d.sz) W (madeCells z.cells (q * d.sz)) q hbase (by simpa [maxLen] using (by omega : q ≤ 9223372036854775807)) (size_madeCells _ _)
      simpa using h2
    · refine hrep.imp_ (fun p c hp => d.M_mono (fun k hk => ⟨hok k hk.1, fun he => ?_⟩) (Kd.M_below (d.M_bound hp) (below_alloc (Below.refl _ _) _)))
      have h3 : k = W.heap.size := by simpa [Value.ownBlock] using he
      have := hk.2.2.1
      omega
  have hrow := Kd.R_take (m := m) hfull (by simpa using hmq)
  rw [List.take_replicate, Nat.min_eq_left hmq] at hrow
  refine Kd.event_run hgd (v := .slice (some ⟨W.heap.size, 0, none⟩) m q) (w1 := W.alloc (.cells (madeCells z.cells (q * d.sz)) e)) ?_ (h _ _ hrow (HB.alloc hbase _) (World.grownBy_alloc W _ none) ⟨W.heap.size, by simp [Value.ownBlock], Nat.le_refl _⟩)
  simp [execOp, ho, hx, hy, hr]
end
section
variable {P : Program}
/-- 'xs[a:b:b]' of a slice that is read. -/
theorem print_mid3_of {α : Type} (enc : α → Value) (d : α) (t e : TypeId) (kl kh km : IntKind) {i : TypeInfo} (ht : P.underlying t = some (.slice e)) (hi : P.info? e = some i) (hsz : i.size = 1) (A : Option Addr) (c : Nat) (xs : List α) (a b : Int) (h0 : 0 ≤ a) (h1 : a ≤ b) (hm : b ≤ xs.length) (hc : xs.length ≤ c) :
    ∃ A' : Option Addr, (∀ W : World, (Instr.slice t (.slice A xs.length c) (some (.int kl a)) (some (.int kh b)) (some (.int km b))).run P W = .ok (.slice A' ((xs.take b.toNat).drop a.toNat).length ((xs.take b.toNat).drop a.toNat).length) W) ∧
      (∀ w : World, ReadsOf enc d w A xs.length xs → ReadsOf enc d w A' ((xs.take b.toNat).drop a.toNat).length ((xs.take b.toNat).drop a.toNat)) ∧ ((xs.take b.toNat).drop a.toNat).length ≤ ((xs.take b.toNat).drop a.toNat).length := by
  have hlt : (xs.take b.toNat).length = b.toNat := by rw [List.length_take]; omega
  have hl : ((xs.take b.toNat).drop a.toNat).length = b.toNat - a.toNat := by rw [List.length_drop, hlt]
  refine ⟨if b.toNat = a.toNat then A else A.map (·.add a.toNat), fun W => ?_, fun w h => ?_, Nat.le_refl _⟩
  · have hel : P.elem t = e := by simp [Program.elem, ht]
    have hu : P.underlying t = some (.slice (P.elem t)) := by rw [hel]; exact ht
    rw [run_slice_lhm W t A xs.length c hu kl kh km a b b h0 h1 (Int.le_refl _) (by omega), hel, hl]
    simp [sizeOf, typeInfo, hi, hsz, sliced, Result.andThen]
  · have h2 := (h.take_ b.toNat (by omega)).drop_ (c := b.toNat) a.toNat (by omega) (by omega)
    rw [hl]
    exact h2
end
theorem zero_u8 (w : World) (base : Nat) (ok : Nat → Prop) : (Kd.int .u8).M w base ok 0 (Value.int .u8 0).cells.toList := by
  show (Value.int .u8 0).cells.toList = [Value.int .u8 0]
  rfl
theorem copied (ys : List Int) (m n : Nat) (hm : m = n) (hn : ys.length = n) : ys.take (min m (List.replicate n (0 : Int)).length) ++ (List.replicate n (0 : Int)).drop (min m (List.replicate n (0 : Int)).length) = ys := by
  subst hm; subst hn; simp
theorem next_n {n : Int} (h0 : ¬ n < 0) (h1 : ¬ 65536 < n) : 0 ≤ n ∧ n ≤ 65536 := by omega
theorem next_len (l : List Int) {j n : Int} (h0 : 0 ≤ j) (h1 : j ≤ wrap64 (j + n)) (h2 : wrap64 (j + n) ≤ (l.length : Int)) (hn : 0 ≤ n ∧ n ≤ 65536) : ((l.take (wrap64 (j + n) : Int).toNat).drop (j : Int).toNat).length = n.toNat := by
  rw [List.length_drop, List.length_take]
  unfold wrap64 at *
  omega
theorem cut_len (l : List Int) (lo hi : Int) (h : hi ≤ (l.length : Int)) : ((l.take hi.toNat).drop lo.toNat).length = hi.toNat - lo.toNat := by
  rw [List.length_drop, List.length_take]
  omega
theorem cut_four (l : List Int) (lo hi : Int) (h : hi ≤ (l.length : Int)) (h3 : (3 : Int) < (((l.take hi.toNat).drop lo.toNat).length : Int)) : 3 < hi.toNat - lo.toNat := by
  rw [cut_len l lo hi h] at h3
  omega
end Go.Proofs.Ytkklehfcadkikaa.Hlp
