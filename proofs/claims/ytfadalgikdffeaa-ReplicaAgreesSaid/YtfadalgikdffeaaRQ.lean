/- Replicated logs: a cluster's acts. -/
import Derived.Test.YtfadalgikdffeaaSD
import Derived.Test.YtfadalgikdffeaaSC
import Derived.Test.YtfadalgikdffeaaUO
set_option linter.unusedVariables false
set_option linter.unusedSimpArgs false
namespace Go.Proofs.Ytfadalgikdffeaa.EVT
open Go Go.EV

theorem tmo_at {r : Rep} (h : okR r) : g15 r.1.1 r.1.2.1 r.1.2.2.1 r.1.2.2.2.1 r.1.2.2.2.2.1 r.1.2.2.2.2.2.1 r.1.2.2.2.2.2.2 r.2.1 r.2.2.1 r.2.2.2 = some (tmoR r) := g15_eq h
theorem beat_at {r : Rep} (h : okR r) : g24 r.1.1 r.1.2.1 r.1.2.2.1 r.1.2.2.2.1 r.1.2.2.2.2.1 r.1.2.2.2.2.2.1 r.1.2.2.2.2.2.2 r.2.1 r.2.2.1 r.2.2.2 = some (beatR r) := g24_eq h
theorem rst_at {r : Rep} (h : okR r) : g19 r.1.1 r.1.2.1 r.1.2.2.1 r.1.2.2.2.1 r.1.2.2.2.2.1 r.1.2.2.2.2.2.1 r.1.2.2.2.2.2.2 r.2.1 r.2.2.1 r.2.2.2 = some (rstR r) := g19_eq h.len
theorem cmt_at {r : Rep} (h : okR r) : g22 r.1.1 r.1.2.1 r.1.2.2.1 r.1.2.2.2.1 r.1.2.2.2.2.1 r.1.2.2.2.2.2.1 r.1.2.2.2.2.2.2 r.2.1 r.2.2.1 r.2.2.2 = some (cmtR r) := g22_eq h.len h.com
theorem rcv_at {r : Rep} (h : okR r) (l : Let) : g16 r.1.1 r.1.2.1 r.1.2.2.1 r.1.2.2.2.1 r.1.2.2.2.2.1 r.1.2.2.2.2.2.1 r.1.2.2.2.2.2.2 r.2.1 r.2.2.1 r.2.2.2 l.1 l.2.1 l.2.2.1 l.2.2.2.1 l.2.2.2.2.1 l.2.2.2.2.2.1 l.2.2.2.2.2.2.1 l.2.2.2.2.2.2.2.1 l.2.2.2.2.2.2.2.2 = some (rcvR r l) := g16_eq l h
theorem pro_at {r : Rep} (h : okR r) (x : List UInt8) : g17 r.1.1 r.1.2.1 r.1.2.2.1 r.1.2.2.2.1 r.1.2.2.2.2.1 r.1.2.2.2.2.2.1 r.1.2.2.2.2.2.2 r.2.1 r.2.2.1 r.2.2.2 x = some (if proE r x = 0 then (propR r x, ((r.2.2.1.length + 1 : Nat) : Int), 0) else (((0, 0, 0, 0, 0, 0, []), 0, [], []), 0, proE r x)) := g17_eq (nd := r.1.1) (ns := r.1.2.1) (tm := r.1.2.2.1) (rl := r.1.2.2.2.1) (vd := r.1.2.2.2.2.1) (ld := r.1.2.2.2.2.2.1) (vs := r.1.2.2.2.2.2.2) (cm := r.2.1) (L := r.2.2.1) (mt := r.2.2.2) x h
theorem beatN_len {r : Rep} : ∀ k j, (beatN r k j).length ≤ k
  | 0, _ => by simp [beatN]
  | k + 1, j => by
    have := beatN_len (r := r) k (j + 1)
    unfold beatN
    split
    · omega
    · simp; omega
theorem beatR_len {r : Rep} (h : okR r) : (beatR r).length ≤ 7 := by
  have hn := h.nodes
  unfold okN at hn
  unfold beatR
  split
  · have := beatN_len (r := r) r.1.2.1.toNat 0
    omega
  · simp
theorem tmoR_len {r : Rep} (h : okR r) : (tmoR r).2.length ≤ 7 := by
  have hn := h.nodes
  unfold okN at hn
  unfold tmoR
  split
  · simp
  · dsimp only
    unfold campL
    split
    · simp
    · split
      · simp
      · have := askL_len r.1.1 (r.1.2.2.1 + 1) r.2.2.1.length (trm r.2.2.1 r.2.2.1.length) r.1.2.1.toNat 0
        omega
theorem rcvR_len {r : Rep} (h : okR r) (l : Let) : (rcvR r l).2.length ≤ 7 := by
  have hrc := h.rcv l
  unfold rcvR at hrc ⊢
  split
  · simp
  · rename_i h0
    rw [if_neg h0] at hrc
    split
    · simp
    · rename_i h1
      rw [if_neg h1] at hrc
      split
      · rename_i h2
        rw [if_pos h2] at hrc
        dsimp only at hrc ⊢
        split
        · rename_i h3
          rw [if_pos h3] at hrc
          exact beatR_len hrc
        · simp
      · split
        · split
          · unfold appR
            split
            · simp
            · split
              · simp
              · split <;> simp
          · simp
        · split <;> simp
section
variable {N : Nat} {c : Cast} {h : Gh} {R : List Rep} {W : List Let}
theorem SysR.sub (hs : SysR N c h R W) {W' : List Let} (hW : ∀ l ∈ W', l ∈ W) : SysR N c h R W' := { hs with lets := fun l hl => hs.lets l (hW l hl) }
theorem Did.sys (hs : SysR N c h R W) {i : Nat} (hi : i < N) {r : Rep} {ls : List Let} (hd : Did N i c h r ls) : ∃ c' h', SysR N c' h' (R.set i r) (W ++ ls) ∧ Gr c h h' ∧ ∀ M, (∀ t, (h.g t).length ≤ M) → ∀ t, (h'.g t).length ≤ M := by
  obtain ⟨c', h', a1, a2, a3, a4, a5⟩ := hd
  exact ⟨c', h', hs.set hi a1 a2 a3 (fun l hl => by
    rcases List.mem_append.1 hl with hl | hl
    · exact .inr hl
    · exact .inl (a4 l hl)), a1.gr, a5⟩
/-- What an act leaves. -/
def After (N : Nat) (c : Cast) (h : Gh) (W : List Let) (nx : Int) (J : Nat) (R' : List Rep) (W' : List Let) (nx' : Int) : Prop :=
  ∃ c' h', SysR N c' h' R' W' ∧ Gr c h h' ∧ (∀ t, (h'.g t).length ≤ J + 1) ∧ W'.length ≤ W.length + 7 ∧ nx ≤ nx' ∧ nx' ≤ nx + 1
theorem arrive_at (hs : SysR N c h R W) {J : Nat} (hJ : ∀ t, (h.g t).length ≤ J) (hW : W.length ≤ 100000) {l : Let} (hl : LOK N c h l) (nx : Int) :
    ∃ R' W', g25 R W nx l.1 l.2.1 l.2.2.1 l.2.2.2.1 l.2.2.2.2.1 l.2.2.2.2.2.1 l.2.2.2.2.2.2.1 l.2.2.2.2.2.2.2.1 l.2.2.2.2.2.2.2.2 = some (true, R', W', nx) ∧ After N c h W nx J R' W' nx ∧ R' = R.set l.2.2.1.toNat (rcvR (R.getD l.2.2.1.toNat R0) l).1 ∧ W' = W ++ (rcvR (R.getD l.2.2.1.toNat R0) l).2 := by
  obtain ⟨t0, t1, _⟩ := hl.base
  have hlen := hs.len
  obtain ⟨i, hi⟩ : ∃ i : Nat, l.2.2.1 = (i : Int) := ⟨l.2.2.1.toNat, by omega⟩
  have hiN : i < N := by omega
  have hr := hs.node i hiN
  unfold g25
  rw [cf (decide_eq_false (by omega)), cf (decide_eq_false (by omega)), ct (in_rng (by omega) (by omega)), ct (decide_eq_true (by omega)), show l.2.2.1.toNat = i by omega, rcv_at hr.ok l]
  simp only [Option.bind_some]
  have hll := rcvR_len hr.ok l
  rw [ct (in_rng (by omega) (by omega)), ct (decide_eq_true (show i < R.length by omega)), ct (decide_eq_true (by omega))]
  obtain ⟨c', h', a1, a2, a3⟩ := Did.sys hs hiN (rcv_did hs.inv hs.n7 hr hl)
  exact ⟨_, _, rfl, ⟨c', h', a1, a2, fun t => Nat.le_succ_of_le (a3 J hJ t), by rw [List.length_append]; omega, Int.le_refl _, by omega⟩, rfl, rfl⟩
theorem without (W : List Let) (i : Nat) (hi : i < W.length) (hW : W.length ≤ 100000) : (List.take (i - 0) (List.drop 0 W) ++ List.take (W.length - (IntKind.i64.wrap ((i : Int) + 1)).toNat) (List.drop (IntKind.i64.wrap ((i : Int) + 1)).toNat W)) = W.take i ++ W.drop (i + 1) := by
  rw [wrap_in (by omega), show ((i : Int) + 1).toNat = i + 1 by omega, List.drop_zero, Nat.sub_zero, List.take_of_length_le (l := List.drop (i + 1) W) (by rw [List.length_drop]; omega)]
theorem mem_without {W : List Let} {i : Nat} {l : Let} (h : l ∈ W.take i ++ W.drop (i + 1)) : l ∈ W := by
  rcases List.mem_append.1 h with h | h
  · exact List.mem_of_mem_take h
  · exact List.mem_of_mem_drop h
theorem tmod_rng {a n : Int} (ha : 0 ≤ a) (hn : 0 < n) : 0 ≤ a.tmod n ∧ a.tmod n < n := by
  rw [Int.tmod_eq_emod_of_nonneg ha]
  exact ⟨Int.emod_nonneg _ (by omega), Int.emod_lt_of_pos _ hn⟩
theorem wrap32 {n : Int} (h : 0 ≤ n ∧ n ≤ 1000) : IntKind.i32.wrap n = n := IntWalk.i32_in _ (by omega)
theorem do_at (hs : SysR N c h R W) {J : Nat} (hJ : ∀ t, (h.g t).length ≤ J) (hJ2 : J ≤ 1000) (hW : W.length ≤ 10000) {nx : Int} (hnx : 0 ≤ nx ∧ nx ≤ 10000) (kd : Int) {n m : Int} (hn : 0 ≤ n) (hm : 0 ≤ m) :
    ∃ R' W' nx', g21 R W nx kd n m = some (true, R', W', nx') ∧ After N c h W nx J R' W' nx' := by
  have hlen := hs.len
  have h0 := hs.n0
  obtain ⟨m0, m1⟩ := tmod_rng (a := n) (n := (R.length : Int)) hn (by omega)
  obtain ⟨i, hi⟩ : ∃ i : Nat, n.tmod (R.length : Int) = (i : Int) := ⟨(n.tmod (R.length : Int)).toNat, by omega⟩
  have hiN : i < N := by omega
  have hr := hs.node i hiN
  have hJ' : ∀ t, (h.g t).length ≤ J + 1 := fun t => Nat.le_succ_of_le (hJ t)
  have same : After N c h W nx J R W nx := ⟨c, h, hs, Gr.refl c h, hJ', by omega, Int.le_refl _, by omega⟩
  unfold g21
  rw [hi, Int.toNat_natCast]
  have q1 : (decide (0 ≤ (i : Int)) && decide ((i : Int) < (R.length : Int))) = true := in_rng (by omega) (by omega)
  have q2 : decide (i < R.length) = true := decide_eq_true (by omega)
  rw [ct (by simp only [Bool.not_eq_true', decide_eq_false_iff_not]; omega)]
  by_cases k0 : kd = 0
  · rw [ct (by simpa using k0), ct q1, ct q2, tmo_at hr.ok]
    simp only [Option.bind_some]
    have hll := tmoR_len hr.ok
    rw [ct q1, ct q2, ct (decide_eq_true (by omega))]
    obtain ⟨c', h', a1, a2, a3⟩ := Did.sys hs hiN (tmo_did hs.inv hs.n7 hr)
    exact ⟨_, _, _, rfl, c', h', a1, a2, fun t => Nat.le_succ_of_le (a3 J hJ t), by rw [List.length_append]; omega, Int.le_refl _, by omega⟩
  rw [cf (by simpa using k0)]
  by_cases k1 : kd = 1
  · rw [ct (by simpa using k1), ct q1, ct q2, beat_at hr.ok]
    simp only [Option.bind_some]
    have hll := beatR_len hr.ok
    rw [ct (decide_eq_true (by omega))]
    refine ⟨_, _, _, rfl, c, h, ⟨hs.n0, hs.n7, hs.len, hs.inv, hs.node, fun l hl => ?_⟩, Gr.refl c h, hJ', by rw [List.length_append]; omega, Int.le_refl _, by omega⟩
    rcases List.mem_append.1 hl with hl | hl
    · exact hs.lets l hl
    · exact beat_ok hr l hl
  rw [cf (by simpa using k1)]
  by_cases k2 : kd = 2
  · obtain ⟨z0, z1⟩ := tmod_rng (a := nx) (n := 26) hnx.1 (by decide)
    rw [ct (by simpa using k2), ct q1, ct q2, wrap_in (n := 97 + nx.tmod 26) (by omega), wrap32 (by omega), ct (decide_eq_true (by omega)), pro_at hr.ok]
    simp only [Option.bind_some]
    have hL := hr.good.bound hJ
    have hx1 : [UInt8.ofNat (97 + nx.tmod 26).toNat].length = 1 := rfl
    generalize [UInt8.ofNat (97 + nx.tmod 26).toNat] = x at *
    rw [ct q1, ct q2]
    by_cases hrole : (R.getD i R0).1.2.2.2.1 = 2
    · have e : proE (R.getD i R0) x = 0 := by
        unfold proE
        rw [if_neg (by omega), if_neg (by omega), if_neg (by omega)]
      rw [if_pos e]
      dsimp only
      rw [cf (by rw [hrole]; rfl), ct (by rfl), ct q1, ct q2, wrap_in (n := nx + 1) (by omega)]
      obtain ⟨h', a1, a2, a3, a4⟩ := propose hs.inv hr hiN e
      exact ⟨_, _, _, rfl, c, h', hs.set hiN a1 a2 a3 (fun l hl => .inr hl), a1.gr, fun t => Nat.le_trans (a4 t) (by have := hJ t; omega), by omega, by omega, Int.le_refl _⟩
    · have e : proE (R.getD i R0) x = 24 := by
        unfold proE
        rw [if_pos hrole]
      rw [e, if_neg (by decide)]
      dsimp only
      have e2 : ((R.getD i R0).1.2.2.2.1 == 2) = false := by simpa using hrole
      rw [cf (by rw [e2]; rfl), cf (by rfl)]
      exact ⟨_, _, _, rfl, same⟩
  rw [cf (by simpa using k2)]
  by_cases k6 : kd = 6
  · rw [ct (by simpa using k6), ct q1, ct q2, rst_at hr.ok]
    simp only [Option.bind_some]
    rw [ct q1, ct q2]
    have hd := Did.same (ls := []) hs.inv (hr.rst hs.inv) (by simp)
    obtain ⟨c', h', a1, a2, a3⟩ := Did.sys hs hiN hd
    rw [List.append_nil] at a1
    exact ⟨_, _, _, rfl, c', h', a1, a2, fun t => Nat.le_succ_of_le (a3 J hJ t), by omega, Int.le_refl _, by omega⟩
  rw [cf (by simpa using k6)]
  by_cases hw0 : (W.length : Int) = 0
  · rw [ct (by simpa using hw0)]
    exact ⟨_, _, _, rfl, same⟩
  rw [cf (by simpa using hw0), ct (by simpa using hw0)]
  obtain ⟨w0, w1⟩ := tmod_rng (a := m) (n := (W.length : Int)) hm (by omega)
  obtain ⟨j, hj⟩ : ∃ j : Nat, m.tmod (W.length : Int) = (j : Int) := ⟨(m.tmod (W.length : Int)).toNat, by omega⟩
  rw [hj, Int.toNat_natCast]
  have hjW : j < W.length := by omega
  have hlat : W.getD j (0, 0, 0, 0, 0, 0, 0, false, []) = W[j] := getD_at _ hjW
  have hl : LOK N c h (W.getD j (0, 0, 0, 0, 0, 0, 0, false, [])) := by rw [hlat]; exact hs.lets _ (List.getElem_mem _)
  have hwl : (W.take j ++ W.drop (j + 1)).length ≤ W.length := by rw [List.length_append, List.length_take, List.length_drop]; omega
  rw [ct (in_rng (by omega) (by omega)), ct (decide_eq_true hjW), without W j hjW (by omega)]
  generalize W.getD j (0, 0, 0, 0, 0, 0, 0, false, []) = l at *
  by_cases k4 : kd = 4
  · rw [cf (by simp [k4]), ct (by simp [k4])]
    obtain ⟨R', W', a1, a2, _⟩ := arrive_at hs hJ (by omega) hl nx
    rw [a1]
    exact ⟨_, _, _, rfl, a2⟩
  · have hs' := hs.sub (W' := W.take j ++ W.drop (j + 1)) (fun l hl => mem_without hl)
    rw [ct (by simpa using k4), ct (by simp; omega), ct (by rw [wrap_in (by omega)]; simp; omega), ct (decide_eq_true (by rw [wrap_in (by omega), List.length_take, List.length_drop]; omega))]
    by_cases k5 : kd = 5
    · rw [cf (by simp [k5])]
      exact ⟨_, _, _, rfl, c, h, hs', Gr.refl c h, hJ', by omega, Int.le_refl _, by omega⟩
    · rw [ct (by simpa using k5)]
      obtain ⟨R', W', a1, ⟨c', h', b1, b2, b3, b4, b5⟩, _⟩ := arrive_at hs' hJ (by omega) hl nx
      rw [a1]
      exact ⟨_, _, _, rfl, c', h', b1, b2, b3, by omega, b5⟩
end
end Go.Proofs.Ytfadalgikdffeaa.EVT
