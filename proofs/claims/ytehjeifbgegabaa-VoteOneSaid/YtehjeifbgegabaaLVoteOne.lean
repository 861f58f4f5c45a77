/- The law VoteOne: no term has two leaders. -/
import Derived.Test.YtehjeifbgegabaaWO
import Derived.Test.YtehjeifbgegabaaUO
set_option linter.unusedVariables false
set_option linter.unusedSimpArgs false
namespace Go.Proofs.Ytehjeifbgegabaa.EVT
open Go Go.EV

theorem ct {α : Type} {b : Bool} {x y : α} (h : b = true) : cond b x y = x := by rw [h]; rfl
theorem cf {α : Type} {b : Bool} {x y : α} (h : b = false) : cond b x y = y := by rw [h]; rfl
theorem loopN_s {σ O : Type} (st : (σ → Option O) → σ → Option O) (n : Nat) (v : σ) : loopN st (n + 1) v = st (loopN st n) v := rfl
abbrev B0 : Bal := (0, 0, 0, 0, 0, 0, [])
abbrev L0 : Let := (0, 0, 0, 0, 0, 0, 0, false, [])
theorem in_rng {a n : Int} (h0 : 0 ≤ a) (h1 : a < n) : (decide (0 ≤ a) && decide (a < n)) = true := by simp [h0, h1]
theorem loop29 (L : List (Int × Int)) (p q : Int) (hL : L.length ≤ 100000) : ∀ (d j k : Nat), j + d = L.length → d < k → ∃ r, loopN st29_0 k ((L, (L.length : Int), (j : Int)), p, q) = some r := by
  intro d
  induction d with
  | zero =>
    intro j k hj hd
    cases k with
    | zero => omega
    | succ k =>
      rw [loopN_s]; generalize loopN st29_0 k = LL at *; dsimp only [st29_0]
      rw [cf (decide_eq_false (by omega))]
      exact ⟨_, rfl⟩
  | succ d ih =>
    intro j k hj hd
    cases k with
    | zero => omega
    | succ k =>
      have ih' := ih (j + 1) k (by omega) (by omega)
      rw [loopN_s]; generalize loopN st29_0 k = LL at ih' ⊢; dsimp only [st29_0]
      rw [ct (decide_eq_true (by omega)), ct (in_rng (by omega) (by omega)), wrap_in (n := (j : Int) + 1) (by omega)]
      cases p == (L.getD (Int.toNat j) (0, 0)).1 && (q == (L.getD (Int.toNat j) (0, 0)).2 && true) with
      | true => exact ⟨_, rfl⟩
      | false => exact ih'
theorem g18_some (L : List (Int × Int)) (p q : Int) (hL : L.length ≤ 100000) : ∃ r, g18 L p q = some r := by
  unfold g18 g29
  obtain ⟨r, hr⟩ := loop29 L p q hL L.length 0 fuel (by omega) (by rw [fuel_eq]; omega)
  have hr' : h29_0 ((L, (L.length : Int), 0), p, q) = some r := hr
  rw [hr']
  simp only [Option.bind_some]
  cases r <;> exact ⟨_, rfl⟩
theorem loop5_3 {N : Nat} {c : Cast} (hN : N ≤ 7) (a : Int) (e : List Int) (x y z : Int) (A : List (Int × Int)) (n : Int) (i : Nat) (W : List Let) (B : List Bal) (b : Bal) (L : List (Int × Int)) (hL : L.length ≤ 100000) (hb : Won N c b.2.2.1 (i : Int)) (hl : ∀ p ∈ L, Won N c p.1 p.2) : ∀ (d j k : Nat), j + d = L.length → d < k →
    loopN st5_3 k ((a, e, (i : Int), A, x, y, n, z, (L.length : Int), (j : Int)), L, B, b, W) = some (.inl ((a, e, (i : Int), A, x, y, n, z), B, b, W, L)) := by
  intro d
  induction d with
  | zero =>
    intro j k hj hd
    cases k with
    | zero => omega
    | succ k =>
      rw [loopN_s]; generalize loopN st5_3 k = LL at *; dsimp only [st5_3]
      rw [cf (decide_eq_false (by omega))]
  | succ d ih =>
    intro j k hj hd
    cases k with
    | zero => omega
    | succ k =>
      have ih' := ih (j + 1) k (by omega) (by omega)
      rw [loopN_s]; generalize loopN st5_3 k = LL at ih' ⊢; dsimp only [st5_3]
      have hat : L.getD j (0, 0) = L[j] := getD_at _ (by omega)
      have hw := hl L[j] (List.getElem_mem _)
      rw [ct (decide_eq_true (by omega)), ct (in_rng (by omega) (by omega)), Int.toNat_natCast, ct (decide_eq_true (by omega)), hat, wrap_in (n := (j : Int) + 1) (by omega)]
      by_cases h1 : L[j].1 = b.2.2.1
      · have h2 : L[j].2 = (i : Int) := by rw [h1] at hw; exact hw.one hN hb
        rw [ct (by simpa using h1), cf (by simpa using h2)]
        exact ih'
      · rw [cf (by simpa using h1)]
        exact ih'
theorem loop5_2 {N : Nat} {c : Cast} (a : Int) (e : List Int) (x y : Int) (A : List (Int × Int)) (W : List Let) (B : List Bal) : ∀ (d i k : Nat) (L : List (Int × Int)), Sys N c B W L → i + d = N → d < k → L.length + d ≤ 100000 →
    ∃ L', loopN st5_2 k ((a, e, A, x, y, (N : Int), (i : Int)), W, B, L) = some (.inl ((a, e, A, x, y), W, L', B)) ∧ Sys N c B W L' ∧ L'.length ≤ L.length + d := by
  intro d
  induction d with
  | zero =>
    intro i k L h hi hd hL
    cases k with
    | zero => omega
    | succ k =>
      rw [loopN_s]; generalize loopN st5_2 k = LL at *; dsimp only [st5_2]
      rw [cf (decide_eq_false (by omega))]
      exact ⟨L, rfl, h, by omega⟩
  | succ d ih =>
    intro i k L h hi hd hL
    cases k with
    | zero => omega
    | succ k =>
      have ih' := fun L a b => ih (i + 1) k L a (by omega) (by omega) b
      rw [loopN_s]; generalize loopN st5_2 k = LL at ih' ⊢; dsimp only [st5_2]
      have hn := h.node i (by omega)
      have hlen := h.len
      have hN := h.n7
      rw [ct (decide_eq_true (by omega)), ct (in_rng (by omega) (by omega)), Int.toNat_natCast, ct (decide_eq_true (by omega)), wrap_in (n := (i : Int) + 1) (by omega)]
      generalize hb : B.getD i (0, 0, 0, 0, 0, 0, []) = b at *
      have next : ∀ L', Sys N c B W L' → L'.length ≤ L.length + 1 → ∃ L'', LL ((a, e, A, x, y, (N : Int), (i : Int) + 1), W, B, L') = some (.inl ((a, e, A, x, y), W, L'', B)) ∧ Sys N c B W L'' ∧ L''.length ≤ L.length + (d + 1) := by
        intro L' h1 h2
        obtain ⟨L'', g1, g2, g3⟩ := ih' L' h1 (by omega)
        exact ⟨L'', g1, g2, by omega⟩
      by_cases hr : b.2.2.2.1 = 2
      · rw [cf (by simpa using hr)]
        have hw := hn.led hr
        have h3 := loop5_3 (by omega) a e x y (i : Int) A (N : Int) i W B b L (by omega) hw h.lds L.length 0 fuel (by omega) (by rw [fuel_eq]; omega)
        have h3' : h5_3 ((a, e, (i : Int), A, x, y, (N : Int), (i : Int), (L.length : Int), 0), L, B, b, W) = _ := h3
        rw [h3']
        simp only [Option.bind_some]
        obtain ⟨r, hr2⟩ := g18_some L b.2.2.1 (i : Int) (by omega)
        rw [hr2]
        simp only [Option.bind_some]
        rw [wrap_in (n := (i : Int) + 1) (by omega)]
        cases r with
        | true => exact next L h (by omega)
        | false =>
          rw [ct (b := !false) rfl, ct (decide_eq_true (by omega))]
          refine next (L ++ [(b.2.2.1, (i : Int))]) { h with lds := fun p hp => ?_ } (by simp)
          rcases List.mem_append.1 hp with hp | hp
          · exact h.lds p hp
          · simp only [List.mem_singleton] at hp
            subst hp
            exact hw
      · rw [ct (by simpa using hr)]
        exact next L h (by omega)
theorem tmod_rng {a n : Int} (ha : 0 ≤ a) (hn : 0 < n) : 0 ≤ a.tmod n ∧ a.tmod n < n := by
  rw [Int.tmod_eq_emod_of_nonneg ha]
  exact ⟨Int.emod_nonneg _ (by omega), Int.emod_lt_of_pos _ hn⟩
theorem g16_at {b : Bal} (l : Let) (h : okB b) : g16 b.1 b.2.1 b.2.2.1 b.2.2.2.1 b.2.2.2.2.1 b.2.2.2.2.2.1 b.2.2.2.2.2.2 l.1 l.2.1 l.2.2.1 l.2.2.2.1 l.2.2.2.2.1 l.2.2.2.2.2.1 l.2.2.2.2.2.2.1 l.2.2.2.2.2.2.2.1 l.2.2.2.2.2.2.2.2 = some (cnt b l.1 l.2.1 l.2.2.1 l.2.2.2.1 l.2.2.2.2.2.2.2.1) := g16_eq _ _ _ _ _ _ _ _ _ h
/-- A letter arrives. -/
theorem arrive_ok {N : Nat} {c : Cast} {B : List Bal} {W : List Let} {L : List (Int × Int)} (h : Sys N c B W L) (e : List Int) (he : e.length = N) {l : Let} (hl : Lok N c l) :
    ∃ c' ls B', g17 B e l.1 l.2.1 l.2.2.1 l.2.2.2.1 l.2.2.2.2.1 l.2.2.2.2.2.1 l.2.2.2.2.2.2.1 l.2.2.2.2.2.2.2.1 l.2.2.2.2.2.2.2.2 = some (ls, B') ∧ Sys N c' B' (W ++ ls) L ∧ ls.length ≤ 1 := by
  have hlen := h.len
  have hl' := hl
  obtain ⟨t0, t1, _⟩ := hl'
  obtain ⟨i, hi⟩ : ∃ i : Nat, l.2.2.1 = (i : Int) := ⟨l.2.2.1.toNat, by omega⟩
  have hiN : i < N := by omega
  have hn := h.node i hiN
  unfold g17
  have r1 : (decide (0 ≤ l.2.2.1) && decide (l.2.2.1 < (B.length : Int))) = true := in_rng (by omega) (by omega)
  have r2 : decide (l.2.2.1.toNat < B.length) = true := decide_eq_true (by omega)
  have r3 : l.2.2.1.toNat = i := by omega
  by_cases h1 : l.1 = 1
  · rw [cf (by simpa using h1), ct r1, ct r2, ct (in_rng (by omega) (by omega))]
    rw [r3]
    have hg := g14_eq (nd := (B.getD i B0).1) (ns := (B.getD i B0).2.1) (tm := (B.getD i B0).2.2.1) (rl := (B.getD i B0).2.2.2.1) (vd := (B.getD i B0).2.2.2.2.1) (ld := (B.getD i B0).2.2.2.2.2.1) (vs := (B.getD i B0).2.2.2.2.2.2) l.1 l.2.1 l.2.2.1 l.2.2.2.1 l.2.2.2.2.1 l.2.2.2.2.2.1 l.2.2.2.2.2.2.1 l.2.2.2.2.2.2.2.1 l.2.2.2.2.2.2.2.2 (e.getD i 0) 0 (okB_len hn.ok)
    rw [hg]
    simp only [Option.bind_some]
    rw [ct r1, ct (decide_eq_true (show i < B.length by omega))]
    obtain ⟨c', hc'⟩ := ans_sys h hiN l (e.getD i 0) 0
    exact ⟨c', _, _, rfl, hc', by simp⟩
  · rw [ct (by simpa using h1), ct r1, ct r2, r3, g16_at l hn.ok]
    simp only [Option.bind_some]
    rw [ct r1, ct (decide_eq_true (show i < B.length by omega))]
    exact ⟨c, [], _, rfl, by rw [List.append_nil]; exact cnt_sys h hiN hl, by simp⟩
theorem without (W : List Let) (i : Nat) (hi : i < W.length) (hW : W.length ≤ 100000) : (List.take (i - 0) (List.drop 0 W) ++ List.take (W.length - (IntKind.i64.wrap ((i : Int) + 1)).toNat) (List.drop (IntKind.i64.wrap ((i : Int) + 1)).toNat W)) = W.take i ++ W.drop (i + 1) := by
  rw [wrap_in (by omega), show ((i : Int) + 1).toNat = i + 1 by omega, List.drop_zero, Nat.sub_zero, List.take_of_length_le (l := List.drop (i + 1) W) (by rw [List.length_drop]; omega)]
theorem mem_without {W : List Let} {i : Nat} {l : Let} (h : l ∈ W.take i ++ W.drop (i + 1)) : l ∈ W := by
  rcases List.mem_append.1 h with h | h
  · exact List.mem_of_mem_take h
  · exact List.mem_of_mem_drop h
theorem step1 {N : Nat} (A : List (Int × Int)) (hA : A.length ≤ 200) (e : List Int) (he : e.length = N) : ∀ (d j k : Nat) (c : Cast) (B : List Bal) (W : List Let) (L : List (Int × Int)), Sys N c B W L → j + d = A.length → d < k → W.length ≤ 7 * j → L.length ≤ 7 * j →
    loopN st5_1 k (((N : Int), e, A, (A.length : Int), (j : Int)), L, W, B) = some (.inl ((), ())) := by
  intro d
  induction d with
  | zero =>
    intro j k c B W L h hj hd hW hL
    cases k with
    | zero => omega
    | succ k =>
      rw [loopN_s]; generalize loopN st5_1 k = LL at *; dsimp only [st5_1]
      rw [cf (decide_eq_false (by omega))]
  | succ d ih =>
    intro j k c B W L h hj hd hW hL
    cases k with
    | zero => omega
    | succ k =>
      have ih' := fun c B W L a b e => ih (j + 1) k c B W L a (by omega) (by omega) b e
      rw [loopN_s]; generalize loopN st5_1 k = LL at ih' ⊢; dsimp only [st5_1]
      have h0 := h.n0
      have h7 := h.n7
      have hlen := h.len
      have ew : IntKind.i64.wrap ((j : Int) + 1) = ((j + 1 : Nat) : Int) := wrap_in (n := (j : Int) + 1) (by omega)
      rw [ct (decide_eq_true (by omega)), ct (in_rng (by omega) (by omega)), Int.toNat_natCast, ew]
      generalize A.getD j (0, 0) = x
      -- the leaders are looked at
      have look : ∀ (c' : Cast) (B' : List Bal) (W' : List Let), Sys N c' B' W' L → W'.length ≤ 7 * (j + 1) →
          (Option.bind (h5_2 (((N : Int), e, A, (A.length : Int), (j : Int), (B'.length : Int), 0), W', B', L)) fun v => match v with
            | .inl x3 => LL ((x3.1.1, x3.1.2.1, x3.1.2.2.1, x3.1.2.2.2.1, IntKind.i64.wrap (x3.1.2.2.2.2 + 1)), x3.2.2.1, x3.2.1, x3.2.2.2)
            | .inr x3 => some (Sum.inr x3)) = some (.inl ((), ())) := by
        intro c' B' W' hs hw
        obtain ⟨L', g1, g2, g3⟩ := loop5_2 (N : Int) e (A.length : Int) (j : Int) A W' B' N 0 fuel L hs (by omega) (by rw [fuel_eq]; omega) (by omega)
        have hl' := hs.len
        have g1' : h5_2 (((N : Int), e, A, (A.length : Int), (j : Int), (B'.length : Int), 0), W', B', L) = some (.inl (((N : Int), e, A, (A.length : Int), (j : Int)), W', L', B')) := by rw [hl']; exact g1
        rw [g1']
        simp only [Option.bind_some]
        rw [ew]
        exact ih' c' B' W' L' g2 hw (by omega)
      by_cases h1 : x.2 < 0
      · rw [ct (decide_eq_true h1)]
        exact ih' c B W L h (by omega) (by omega)
      · rw [cf (decide_eq_false h1)]
        by_cases h2 : x.1 = 0
        · rw [ct (by simpa using h2), ct (by simp; omega)]
          obtain ⟨m0, m1⟩ := tmod_rng (a := x.2) (n := (N : Int)) (by omega) (by omega)
          obtain ⟨i, hi⟩ : ∃ i : Nat, x.2.tmod (N : Int) = (i : Int) := ⟨(x.2.tmod (N : Int)).toNat, by omega⟩
          rw [hi, Int.toNat_natCast]
          have hiN : i < N := by omega
          have r1 : (decide (0 ≤ (i : Int)) && decide ((i : Int) < (B.length : Int))) = true := in_rng (by omega) (by omega)
          have hn := h.node i hiN
          rw [ct r1, ct (decide_eq_true (by omega)), ct (in_rng (by omega) (by omega))]
          have hg := g13_eqL (nd := (B.getD i B0).1) (ns := (B.getD i B0).2.1) (tm := (B.getD i B0).2.2.1) (rl := (B.getD i B0).2.2.2.1) (vd := (B.getD i B0).2.2.2.2.1) (ld := (B.getD i B0).2.2.2.2.2.1) (vs := (B.getD i B0).2.2.2.2.2.2) (e.getD i 0) 0 hn.ok
          rw [hg]
          simp only [Option.bind_some]
          obtain ⟨c', hc'⟩ := camp_sys h hiN (e.getD i 0) 0
          have hcl : (campL (B.getD i B0) (e.getD i 0) 0).length ≤ 7 := by
            unfold campL
            split
            · simp
            · split
              · simp
              · have := askL_len (B.getD i B0).1 ((B.getD i B0).2.2.1 + 1) (e.getD i 0) 0 (B.getD i B0).2.1.toNat 0
                have h3 : (B.getD i B0).2.1 = N := hn.ns
                omega
          have hcl' : W.length + (campL (B.getD i B0) (e.getD i 0) 0).length ≤ 7 * (j + 1) := by omega
          have hbig : W.length + (campL (B.getD i B0) (e.getD i 0) 0).length ≤ 100000 := by omega
          rw [ct r1, ct (decide_eq_true (show i < B.length by omega)), ct (decide_eq_true (Nat.le_trans hbig (by decide)))]
          exact look c' _ _ hc' (by rw [List.length_append]; omega)
        · rw [cf (by simpa using h2)]
          by_cases h3 : (W.length : Int) > 0
          · rw [ct (decide_eq_true h3), ct (by simp; intro h5; rw [h5] at h3; simp at h3)]
            obtain ⟨m0, m1⟩ := tmod_rng (a := x.2) (n := (W.length : Int)) (by omega) (by omega)
            obtain ⟨i, hi⟩ : ∃ i : Nat, x.2.tmod (W.length : Int) = (i : Int) := ⟨(x.2.tmod (W.length : Int)).toNat, by omega⟩
            rw [hi, Int.toNat_natCast]
            have hiW : i < W.length := by omega
            rw [ct (in_rng (by omega) (by omega)), ct (decide_eq_true (by omega)), without W i hiW (by omega)]
            have hlat : W.getD i L0 = W[i] := getD_at _ hiW
            have hl : Lok N c (W.getD i L0) := by rw [hlat]; exact h.lets _ (List.getElem_mem _)
            have hwl : (W.take i ++ W.drop (i + 1)).length ≤ 7 * j := by rw [List.length_append, List.length_take, List.length_drop]; omega
            generalize W.getD i L0 = l at *
            by_cases h4 : x.1 = 2
            · rw [cf (by simpa using h4), cf (by simp [h4]), cf (decide_eq_false (by have := hl.1; omega)), cf (decide_eq_false (by have := hl.2.1; omega))]
              obtain ⟨c', ls, B', a1, a2, a3⟩ := arrive_ok h e he hl
              rw [a1]
              simp only [Option.bind_some]
              rw [ct (by have := a2.len; simp; omega), ct (decide_eq_true (by omega))]
              exact look c' B' _ a2 (by rw [List.length_append]; omega)
            · have hs := h.sub (W' := W.take i ++ W.drop (i + 1)) (fun l hl => mem_without hl)
              rw [ct (by simpa using h4), ct (by simp; omega), ct (by rw [wrap_in (by omega)]; simp; omega), ct (decide_eq_true (by rw [wrap_in (by omega)]; simp; omega))]
              by_cases h5 : x.1 = 3
              · rw [ct (by simpa using h5)]
                exact ih' c B _ L hs (by omega) (by omega)
              · rw [cf (by simpa using h5), cf (decide_eq_false (by have := hl.1; omega)), cf (decide_eq_false (by have := hl.2.1; omega))]
                obtain ⟨c', ls, B', a1, a2, a3⟩ := arrive_ok hs e he hl
                rw [a1]
                simp only [Option.bind_some]
                rw [ct (by have := a2.len; simp; omega), ct (decide_eq_true (by omega))]
                exact look c' B' _ a2 (by rw [List.length_append]; omega)
          · rw [cf (decide_eq_false h3)]
            exact look c B W h (by omega)
def bal0 (N : Nat) (i : Nat) : Bal := ((i : Int), (N : Int), 0, 0, -1, -1, [])
theorem g8_eq {N i : Nat} (h0 : 1 ≤ N) (h7 : N ≤ 7) (hi : i < N) : g8 (i : Int) (N : Int) = some (bal0 N i, 0) := by
  unfold g8 bal0
  rw [cf (decide_eq_false (by omega)), cf (decide_eq_false (by omega)), cf (decide_eq_false (by omega)), cf (decide_eq_false (by omega))]
theorem step0 {N : Nat} (h0 : 1 ≤ N) (h7 : N ≤ 7) (u : List UInt8) (A : List (Int × Int)) (hu : u.length ≤ 9223372036854775807) : ∀ (d j k : Nat) (e : List Int), e.length = N → j + d = N → d < k →
    ∃ e' : List Int, e'.length = N ∧ loopN st5_0 k (((N : Int), u, A, (N : Int), (j : Int)), (List.range j).map (bal0 N), e) = some (.inl (((N : Int), A), e', (List.range N).map (bal0 N))) := by
  intro d
  induction d with
  | zero =>
    intro j k e he hj hd
    cases k with
    | zero => omega
    | succ k =>
      refine ⟨e, he, ?_⟩
      rw [loopN_s]; generalize loopN st5_0 k = LL at *; dsimp only [st5_0]
      rw [cf (decide_eq_false (by omega)), show j = N by omega]
  | succ d ih =>
    intro j k e he hj hd
    cases k with
    | zero => omega
    | succ k =>
      have ih' := fun e a => ih (j + 1) k e a (by omega) (by omega)
      rw [loopN_s]; generalize loopN st5_0 k = LL at ih' ⊢; dsimp only [st5_0]
      have ew : IntKind.i64.wrap ((j : Int) + 1) = ((j + 1 : Nat) : Int) := wrap_in (n := (j : Int) + 1) (by omega)
      rw [ct (decide_eq_true (by omega)), g8_eq h0 h7 (show j < N by omega)]
      simp only [Option.bind_some]
      have eB : (List.range j).map (bal0 N) ++ [bal0 N j] = (List.range (j + 1)).map (bal0 N) := by rw [List.range_succ, List.map_append]; rfl
      rw [cf (by simp), ct (decide_eq_true (by simp; omega)), ew, eB, Int.toNat_natCast]
      by_cases h1 : (j : Int) < (u.length : Int)
      · rw [ct (decide_eq_true h1), ct (in_rng (by omega) h1), ct (in_rng (by omega) (by omega)), ct (decide_eq_true (by omega))]
        exact ih' _ (by rw [List.length_set]; exact he)
      · rw [cf (decide_eq_false h1)]
        exact ih' e he
theorem start_sys {N : Nat} (h0 : 1 ≤ N) (h7 : N ≤ 7) : Sys N (fun _ _ => -1) ((List.range N).map (bal0 N)) [] [] := by
  refine ⟨h0, h7, by simp, fun i hi => ?_, by simp, by simp⟩
  have : ((List.range N).map (bal0 N)).getD i (0, 0, 0, 0, 0, 0, []) = bal0 N i := by simp [List.getD_eq_getElem?_getD, hi]
  rw [this]
  refine ⟨?_, rfl, rfl, rfl, fun _ _ => rfl, fun hr => by simp [bal0] at hr, fun hr => by simp [bal0] at hr⟩
  show chk (i : Int) (N : Int) 0 0 (-1) (-1) [] = 0
  refine chk_iff.2 ⟨⟨by omega, by omega, by omega, by omega⟩, by omega, by omega, by omega, rfl, ?_⟩
  simp [cons]
theorem law_one (a0 : Int) (u : List UInt8) (A : List (Int × Int)) (hu : u.length ≤ 9223372036854775807) : g5 a0 u A = some true := by
  unfold g5
  by_cases h1 : a0 < 1
  · rw [ct (decide_eq_true h1), g7_true]; rfl
  · rw [cf (decide_eq_false h1)]
    by_cases h2 : a0 > 7
    · rw [ct (decide_eq_true h2), g7_true]; rfl
    · rw [cf (decide_eq_false h2)]
      by_cases h3 : (A.length : Int) > 200
      · rw [ct (decide_eq_true h3), g7_true]; rfl
      · rw [cf (decide_eq_false h3), ct (by simp; omega)]
        obtain ⟨N, hN⟩ : ∃ N : Nat, a0 = (N : Int) := ⟨a0.toNat, by omega⟩
        subst hN
        obtain ⟨e', he', g1⟩ := step0 (N := N) (by omega) (by omega) u A hu N 0 fuel (List.replicate N 0) (by simp) (by omega) (by rw [fuel_eq]; omega)
        have g1' : h5_0 (((N : Int), u, A, (N : Int), 0), [], List.replicate ((N : Int)).toNat 0) = _ := g1
        rw [g1']
        simp only [Option.bind_some]
        have g2 := step1 A (by omega) e' he' A.length 0 fuel _ _ _ _ (start_sys (N := N) (by omega) (by omega)) (by omega) (by rw [fuel_eq]; omega) (by simp) (by simp)
        have g2' : h5_1 (((N : Int), e', A, (A.length : Int), 0), [], [], (List.range N).map (bal0 N)) = _ := g2
        rw [g2']
        simp only [Option.bind_some]
        rw [g7_true]
        rfl
theorem VoteOne {a0 : Ty.den (.i .i64)} {a1 : Ty.den (.sl .u8)} {a2 : Ty.den (.sl (.st (.pr (.i .i64) (.i .i64))))} (h0 : Bd _ a0) (h1 : Bd _ a1) (h2 : Bd _ a2) : i5.G (a0, a1, a2) = some true :=
  law_one a0 a1 a2 (by have := h1.1; simp only [maxLen] at this; exact Nat.le_trans this (by decide))
end Go.Proofs.Ytehjeifbgegabaa.EVT
