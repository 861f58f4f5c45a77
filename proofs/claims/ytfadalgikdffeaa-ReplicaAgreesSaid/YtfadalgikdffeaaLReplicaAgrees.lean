/- The law ReplicaAgrees: all lists of committed commands are beginnings of each other. -/
import Derived.Test.YtfadalgikdffeaaRQ
set_option linter.unusedVariables false
set_option linter.unusedSimpArgs false
namespace Go.Proofs.Ytfadalgikdffeaa.EVT
open Go Go.EV

theorem str_loop (l : List (List UInt8)) (hl : l.length ≤ 100000) : ∀ (d j k : Nat), j + d = l.length → d < k → loopN st23_0 k ((l, l, (l.length : Int), (j : Int)), ()) = some (.inl ((), ()))
  | 0, j, k + 1, hj, hk => by
    rw [loopN_s]; dsimp only [st23_0]; rw [cf (decide_eq_false (by omega))]
  | d + 1, j, k + 1, hj, hk => by
    have ih := str_loop l hl d (j + 1) k (by omega) (by omega)
    rw [loopN_s]; dsimp only [st23_0]
    rw [ct (decide_eq_true (by omega)), ct (in_rng (by omega) (by omega)), ct (in_rng (by omega) (by omega)), cf (by simp), wrap_in (by omega), show ((j : Int) + 1) = ((j + 1 : Nat) : Int) by omega]
    exact ih
theorem str_self (l : List (List UInt8)) (hl : l.length ≤ 100000) : g23 l l = some true := by
  unfold g23
  have h : h23_0 ((l, l, (l.length : Int), 0), ()) = _ := str_loop l hl l.length 0 fuel (by omega) (by rw [fuel_eq]; omega)
  rw [cf (by simp), h]
  rfl
/-- A list of committed commands. -/
def AGx (N : Nat) (h : Gh) (X : Lg) : Prop := X = [] ∨ ∃ t k, Cmt N h t k ∧ X <+: (h.g t).take k
theorem AGx.gr {N : Nat} {c : Cast} {h h' : Gh} (hg : Gr c h h') (hi : Inv N c h) {X : Lg} (hx : AGx N h X) : AGx N h' X := by
  rcases hx with hx | ⟨t, k, h1, h2⟩
  · exact .inl hx
  · exact .inr ⟨t, k, hg.cmt hi h1, by rw [take_pre (hg.pre hi t) h1.2.2.1]; exact h2⟩
theorem AGx.cmp {N : Nat} (hN : N ≤ 7) {c : Cast} {h : Gh} (hi : Inv N c h) {X Y : Lg} (hx : AGx N h X) (hy : AGx N h Y) : X.take (min X.length Y.length) = Y.take (min X.length Y.length) := by
  have key : X <+: Y ∨ Y <+: X := by
    rcases hx with hx | ⟨t, k, h1, h2⟩
    · subst hx; exact .inl List.nil_prefix
    · rcases hy with hy | ⟨u, j, h3, h4⟩
      · subst hy; exact .inr List.nil_prefix
      · exact cmt_cmp hN hi h1 h3 h2 h4
  rcases key with hk | hk
  · have := hk.length_le
    rw [Nat.min_eq_left this, take_pre hk (Nat.le_refl _)]
  · have := hk.length_le
    rw [Nat.min_eq_right this, take_pre hk (Nat.le_refl _)]
theorem look_loop {N : Nat} {c : Cast} {h : Gh} {R : List Rep} {W : List Let} (hs : SysR N c h R W) {J : Nat} (hJ : ∀ t, (h.g t).length ≤ J) (hJ2 : J ≤ 1000) (acts : List (Int × Int × Int)) (al q nx : Int) : ∀ (d j k : Nat) (X : Lg), j + d = N → d < k → AGx N h X → X.length ≤ J →
    ∃ Y, loopN st5_1 k ((X.map (·.2), acts, al, q, (R.length : Int), (j : Int)), R, ((), (), nx), W) = some (.inl ((Y.map (·.2), acts, al, q), ((), (), nx), W, R)) ∧ AGx N h Y ∧ Y.length ≤ J
  | 0, j, k + 1, X, hj, hk, hx, hxl => by
    refine ⟨X, ?_, hx, hxl⟩
    have := hs.len
    rw [loopN_s]; dsimp only [st5_1]
    rw [cf (decide_eq_false (by omega))]
  | d + 1, j, k + 1, X, hj, hk, hx, hxl => by
    have ih := fun X => look_loop hs hJ hJ2 acts al q nx d (j + 1) k X (by omega) (by omega)
    have hlen := hs.len
    have h7 := hs.n7
    have hr := hs.node j (by omega)
    rw [loopN_s]; generalize loopN st5_1 k = LL at ih ⊢; dsimp only [st5_1]
    rw [ct (decide_eq_true (by omega)), ct (in_rng (by omega) (by omega)), Int.toNat_natCast, ct (decide_eq_true (by omega)), cmt_at hr.ok, wrap_in (n := (j : Int) + 1) (by omega), show ((j : Int) + 1) = ((j + 1 : Nat) : Int) by omega]
    have hb := hr.good.bound hJ
    have hcm := hr.ok.com
    have hcom := hr.com
    generalize R.getD j R0 = r at *
    simp only [Option.bind_some]
    unfold cmtR
    generalize hZ : r.2.2.1.take r.2.1.toNat = Z at *
    have hZl : (Z.length : Int) = r.2.1 := by rw [← hZ, List.length_take]; omega
    have hZx : AGx N h Z := by
      rcases hcom with h1 | ⟨t, k, _, h2, _, h3⟩
      · left
        rw [← hZ, h1]; rfl
      · right
        rw [hZ] at h3
        exact ⟨t, k, h2, h3⟩
    have hZJ : Z.length ≤ J := by rw [← hZ, List.length_take]; omega
    have hcmp := hx.cmp hs.n7 hs.inv hZx
    rw [cf (by simp [hZl]), mn_eq ((X.map (·.2)).length : Int) ((Z.map (·.2)).length : Int)]
    have e1 : (min ((X.map (·.2)).length : Int) ((Z.map (·.2)).length : Int)).toNat = min X.length Z.length := by simp; omega
    rw [ct (by simp; omega), ct (by simp; omega), e1, List.drop_zero, List.drop_zero, ← List.map_take, ← List.map_take, hcmp, str_self _ (by simp; omega)]
    simp only [Option.bind_some]
    rw [cf (b := !true) rfl]
    by_cases hl : ((Z.map (·.2)).length : Int) > ((X.map (·.2)).length : Int)
    · rw [ct (decide_eq_true hl)]
      exact ih Z hZx hZJ
    · rw [cf (decide_eq_false hl)]
      exact ih X hx hxl
theorem act_loop {N : Nat} (acts : List (Int × Int × Int)) (hA : acts.length ≤ 200) : ∀ (d j k : Nat) (c : Cast) (h : Gh) (R : List Rep) (W : List Let) (nx : Int) (X : Lg), j + d = acts.length → d < k →
    SysR N c h R W → (∀ t, (h.g t).length ≤ j) → W.length ≤ 7 * j → (0 ≤ nx ∧ nx ≤ (j : Int)) → AGx N h X → X.length ≤ j →
    loopN st5_0 k ((X.map (·.2), acts, (acts.length : Int), (j : Int)), R, W, (), (), nx) = some (.inl ((), ()))
  | 0, j, k + 1, c, h, R, W, nx, X, hj, hk, hs, hJ, hW, hnx, hx, hxl => by
    rw [loopN_s]; dsimp only [st5_0]
    rw [cf (decide_eq_false (by omega))]
  | d + 1, j, k + 1, c, h, R, W, nx, X, hj, hk, hs, hJ, hW, hnx, hx, hxl => by
    have ih := fun c h R W nx X => act_loop (N := N) acts hA d (j + 1) k c h R W nx X (by omega) (by omega)
    have hj' : j < acts.length := by omega
    rw [loopN_s]; generalize loopN st5_0 k = LL at ih ⊢; dsimp only [st5_0]
    rw [ct (decide_eq_true (by omega)), ct (in_rng (by omega) (by omega)), Int.toNat_natCast, wrap_in (n := (j : Int) + 1) (by omega), show ((j : Int) + 1) = ((j + 1 : Nat) : Int) by omega]
    generalize acts.getD j (0, 0, 0) = o
    by_cases h1 : o.2.1 < 0
    · rw [ct (decide_eq_true h1)]
      exact ih c h R W nx X hs (fun t => Nat.le_succ_of_le (hJ t)) (by omega) (by omega) hx (by omega)
    rw [cf (decide_eq_false h1)]
    by_cases h2 : o.2.2 < 0
    · rw [ct (decide_eq_true h2)]
      exact ih c h R W nx X hs (fun t => Nat.le_succ_of_le (hJ t)) (by omega) (by omega) hx (by omega)
    rw [cf (decide_eq_false h2)]
    obtain ⟨R', W', nx', a1, c', h', b1, b2, b3, b4, b5, b6⟩ := do_at hs hJ (by omega) (by omega) (nx := nx) (by omega) o.1 (n := o.2.1) (m := o.2.2) (by omega) (by omega)
    rw [a1]
    simp only [Option.bind_some]
    rw [cf (b := !true) rfl]
    obtain ⟨Y, y1, y2, y3⟩ := look_loop b1 b3 (by omega) acts (acts.length : Int) (j : Int) nx' N 0 fuel X (by omega) (by rw [fuel_eq]; have := hs.n7; omega) (hx.gr b2 hs.inv) (by omega)
    have y1' : h5_1 ((X.map (·.2), acts, (acts.length : Int), (j : Int), (R'.length : Int), 0), R', ((), (), nx'), W') = _ := y1
    rw [y1']
    simp only [Option.bind_some]
    rw [wrap_in (n := (j : Int) + 1) (by omega), show ((j : Int) + 1) = ((j + 1 : Nat) : Int) by omega]
    exact ih c' h' R' W' nx' Y b1 b3 (by omega) (by omega) y2 y3
def rep0 (N : Nat) (i : Nat) : Rep := (((i : Int), (N : Int), 0, 0, -1, -1, []), 0, [], [])
def gh0 : Gh := { el := fun _ => false, ld := fun _ => 0, g := fun _ => [], a := fun _ _ => 0, d := fun _ _ => [] }
theorem start_loop {N : Nat} (h0 : 1 ≤ N) (h7 : N ≤ 7) (z1 : List Rep) (z2 : List Let) (z3 : Int) : ∀ (d j k : Nat), j + d = N → d < k →
    loopN st20_0 k (((N : Int), (N : Int), (j : Int)), [], (List.range j).map (rep0 N), ((), (), 0), z1, z2, z3) = some (.inl ((), ((), (), 0), (z1, z2, z3), [], (List.range N).map (rep0 N)))
  | 0, j, k + 1, hj, hk => by
    rw [loopN_s]; dsimp only [st20_0]
    rw [cf (decide_eq_false (by omega)), show j = N by omega]
  | d + 1, j, k + 1, hj, hk => by
    have ih := start_loop h0 h7 z1 z2 z3 d (j + 1) k (by omega) (by omega)
    rw [loopN_s]; generalize loopN st20_0 k = LL at ih ⊢; dsimp only [st20_0]
    unfold g9
    rw [ct (decide_eq_true (by omega)), g29_eq, if_pos (by unfold okN; omega)]
    simp only [Option.bind_some]
    rw [cf (by rfl), ct (decide_eq_true (by simp; omega)), wrap_in (n := (j : Int) + 1) (by omega), show ((j : Int) + 1) = ((j + 1 : Nat) : Int) by omega]
    have e : (List.range j).map (rep0 N) ++ [(((j : Int), (N : Int), 0, 0, -1, -1, []), 0, [], [])] = (List.range (j + 1)).map (rep0 N) := by rw [List.range_succ, List.map_append]; rfl
    rw [e]
    exact ih
theorem start_at {N : Nat} (h0 : 1 ≤ N) (h7 : N ≤ 7) : g20 (N : Int) = some (((List.range N).map (rep0 N), [], 0), true) := by
  unfold g20
  have h := start_loop h0 h7 [] [] 0 N 0 fuel (by omega) (by rw [fuel_eq]; omega)
  have h' : h20_0 (((N : Int), (N : Int), 0), [], [], ((), (), 0), [], [], 0) = _ := h
  rw [h']
  rfl
theorem start_sysR {N : Nat} (h0 : 1 ≤ N) (h7 : N ≤ 7) : SysR N (fun _ _ => -1) gh0 ((List.range N).map (rep0 N)) [] := by
  refine ⟨h0, h7, by simp, ⟨fun t => Good.nil _, fun t e he => by simp [gh0] at he, fun t => List.Pairwise.nil, fun _ _ => rfl, fun _ _ => Nat.le_refl _, fun t ht => (by cases ht), fun n t => Good.nil _, fun m t hm => absurd rfl hm, fun m t hm => absurd rfl hm, fun t ht => (by cases ht)⟩, fun i hi => ?_, by simp⟩
  have e : ((List.range N).map (rep0 N)).getD i R0 = rep0 N i := by simp [List.getD_eq_getElem?_getD, hi]
  rw [e]
  have hb : okB (rep0 N i).1 := by
    show chk (i : Int) (N : Int) 0 0 (-1) (-1) [] = 0
    refine chk_iff.2 ⟨⟨by omega, by omega, by omega, by omega⟩, by omega, by omega, by omega, rfl, ?_⟩
    simp [cons]
  refine ⟨⟨hb, rfl, rfl, rfl, fun _ _ => rfl, fun hr => by simp [rep0] at hr, fun hr => by simp [rep0] at hr⟩, ⟨hb, by simp [rep0], by simp [rep0], by simp [rep0], by simp [rep0], rfl, by simp [rep0], fun hr => by simp [rep0] at hr⟩, Good.nil _, fun hr => by simp [rep0] at hr, fun hr => by simp [rep0] at hr, fun t ht k k1 k2 => ?_, List.nil_prefix, fun _ _ => rfl, .inl rfl⟩
  simp [gh0] at k2
  omega
theorem law_agrees (a0 : Int) (acts : List (Int × Int × Int)) : g5 a0 acts = some true := by
  unfold g5
  rw [g8_true]
  by_cases h1 : a0 < 1
  · rw [ct (decide_eq_true h1)]; rfl
  rw [cf (decide_eq_false h1)]
  by_cases h2 : a0 > 7
  · rw [ct (decide_eq_true h2)]; rfl
  rw [cf (decide_eq_false h2)]
  by_cases h3 : (acts.length : Int) > 200
  · rw [ct (decide_eq_true h3)]; rfl
  rw [cf (decide_eq_false h3)]
  obtain ⟨N, hN⟩ : ∃ N : Nat, a0 = (N : Int) := ⟨a0.toNat, by omega⟩
  subst hN
  rw [start_at (by omega) (by omega)]
  simp only [Option.bind_some]
  rw [cf (b := !true) rfl]
  have hl := act_loop acts (by omega) acts.length 0 fuel _ _ _ _ 0 [] (by omega) (by rw [fuel_eq]; omega) (start_sysR (N := N) (by omega) (by omega)) (fun _ => Nat.le_refl _) (by simp) (by omega) (.inl rfl) (by simp)
  have hl' : h5_0 (([], acts, (acts.length : Int), 0), (List.range N).map (rep0 N), [], (), (), 0) = _ := hl
  rw [hl']
  rfl
theorem ReplicaAgrees {a0 : Int} {a1 : List (Int × Int × Int)} (h0 : Bd (.i .i64) a0) (h1 : Bd (.sl (.st (.pr (.i .i64) (.pr (.i .i64) (.i .i64))))) a1) : i5.G (a0, a1) = some true := law_agrees a0 a1
end Go.Proofs.Ytfadalgikdffeaa.EVT
