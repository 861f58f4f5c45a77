/- The law ReplicaPlays: replicas and the reference's answer alike, call for call. -/
import Derived.Test.YtfadalgikdffeaaGreatRT
import Derived.Test.YtfadalgikdffeaaGreatUS
set_option linter.unusedVariables false
set_option linter.unusedSimpArgs false
namespace Go.Proofs.YtfadalgikdffeaaGreat.EVT
open Go Go.EV

theorem campL_len {b : Bal} (h : okB b) (ix pr : Int) : (campL b ix pr).length ≤ 7 := by
  obtain ⟨h1, _⟩ := chk_iff.1 h
  unfold okN at h1
  unfold campL
  split
  · simp
  · split
    · simp
    · have := askL_len b.1 (b.2.2.1 + 1) ix pr b.2.1.toNat 0
      omega
theorem askL_es (nd tm ix pr : Int) : ∀ k j, ∀ x ∈ askL nd tm ix pr k j, x.2.2.2.2.2.2.2.2 = []
  | 0, _, x, h => by simp [askL] at h
  | k + 1, j, x, h => by
    simp only [askL] at h
    split at h
    · exact askL_es nd tm ix pr k (j + 1) x h
    · rcases List.mem_cons.1 h with rfl | h
      · rfl
      · exact askL_es nd tm ix pr k (j + 1) x h
theorem campL_es {b : Bal} (ix pr : Int) : ∀ x ∈ campL b ix pr, x.2.2.2.2.2.2.2.2 = [] := by
  unfold campL
  intro x hx
  split at hx
  · simp at hx
  · split at hx
    · simp at hx
    · exact askL_es _ _ _ _ _ _ x hx
abbrev Opn := Int × Int × Int × Int × Let
/-- One call. -/
theorem str_loop (l : List (List UInt8)) (hl : l.length ≤ 100000) : ∀ (d j k : Nat), j + d = l.length → d < k → loopN st20_0 k ((l, l, (l.length : Int), (j : Int)), ()) = some (.inl ((), ()))
  | 0, j, k + 1, hj, hk => by
    rw [loopN_s]; dsimp only [st20_0]; rw [cf (decide_eq_false (by omega))]
  | d + 1, j, k + 1, hj, hk => by
    have ih := str_loop l hl d (j + 1) k (by omega) (by omega)
    rw [loopN_s]; dsimp only [st20_0]
    rw [ct (decide_eq_true (by omega)), ct (in_rng (by omega) (by omega)), ct (in_rng (by omega) (by omega)), cf (by simp), wrap_in (by omega), show ((j : Int) + 1) = ((j + 1 : Nat) : Int) by omega]
    exact ih
theorem str_self (l : List (List UInt8)) (hl : l.length ≤ 100000) : g20 l l = some true := by
  unfold g20
  have h : h20_0 ((l, l, (l.length : Int), 0), ()) = _ := str_loop l hl l.length 0 fuel (by omega) (by rw [fuel_eq]; omega)
  rw [cf (by simp), h]
  rfl
theorem same_self (r : Rep) (h1 : r.1.2.2.2.2.2.2.length ≤ 7) (h2 : r.2.2.1.length ≤ 5000) (h3 : r.2.2.2.length ≤ 5000) : g12 r.1.1 r.1.2.1 r.1.2.2.1 r.1.2.2.2.1 r.1.2.2.2.2.1 r.1.2.2.2.2.2.1 r.1.2.2.2.2.2.2 r.2.1 r.2.2.1 r.2.2.2 r.1.1 r.1.2.1 r.1.2.2.1 r.1.2.2.2.1 r.1.2.2.2.2.1 r.1.2.2.2.2.2.1 r.1.2.2.2.2.2.2 r.2.1 r.2.2.1 r.2.2.2 = some true := by
  unfold g12
  rw [g41_self r.1 h1]
  simp only [Option.bind_some, cond_true, beq_self_eq_true]
  rw [g42_self _ (by omega), g29_self _ (by omega)]
  rfl
/-- Few letters, with few entries. -/
def LE (l : List Let) : Prop := l.length ≤ 2147483647 ∧ ∀ x ∈ l, x.2.2.2.2.2.2.2.2.length ≤ 2147483647
theorem LE.nil : LE [] := ⟨by simp, fun x hx => by cases hx⟩
theorem LE.one {x : Let} (h : x.2.2.2.2.2.2.2.2 = []) : LE [x] := ⟨by simp, fun y hy => by rw [List.mem_singleton] at hy; subst hy; rw [h]; simp⟩
theorem LE.self {l : List Let} (h : LE l) : g17 l l = some true := g17_self l h.1 h.2
theorem beatN_len (r : Rep) : ∀ k j, (beatN r k j).length ≤ k
  | 0, _ => by simp [beatN]
  | k + 1, j => by
    have := beatN_len r k (j + 1)
    unfold beatN
    split
    · omega
    · rw [List.length_cons]; omega
theorem beatN_es (r : Rep) : ∀ k j, ∀ x ∈ beatN r k j, x.2.2.2.2.2.2.2.2.length ≤ 2147483647
  | 0, _, x, hx => by simp [beatN] at hx
  | k + 1, j, x, hx => by
    have ih := beatN_es r k (j + 1)
    unfold beatN at hx
    split at hx
    · exact ih x hx
    · rcases List.mem_cons.1 hx with rfl | hx
      · show ((r.2.2.1.drop _).take 32).length ≤ _
        rw [List.length_take]; omega
      · exact ih x hx
theorem beatR_le {r : Rep} (h : r.1.2.1 ≤ 7) : LE (beatR r) := by
  unfold beatR
  split
  · exact ⟨by have := beatN_len r r.1.2.1.toNat 0; omega, beatN_es r _ _⟩
  · exact .nil
theorem tmoR_le {r : Rep} (h : okR r) : LE (tmoR r).2 := by
  unfold tmoR
  split
  · exact .nil
  · exact ⟨by have := campL_len h.bal r.2.2.1.length (trm r.2.2.1 r.2.2.1.length); dsimp only; omega, fun x hx => by rw [campL_es _ _ x hx]; simp⟩
theorem appR_le (r : Rep) (fr te ix pr cm : Int) (es : Lg) : LE (appR r fr te ix pr cm es).2 := by
  unfold appR
  split
  · exact .one rfl
  · split
    · exact .nil
    · cases takeR r ix pr cm es <;> exact .one rfl
theorem rcvR_le {r : Rep} (h : okR r) (l : Let) : LE (rcvR r l).2 := by
  unfold rcvR
  split
  · exact .nil
  split
  · refine .one ?_
    unfold ans
    split
    · rfl
    · simp only
      split <;> rfl
  split
  · dsimp only
    split
    · refine beatR_le ?_
      have hn := h.nodes
      unfold okN at hn
      have hc := (cnt_keeps h.bal l.1 l.2.1 l.2.2.1 l.2.2.2.1 l.2.2.2.2.2.2.2.1)
      have h2 := (chk_iff.1 hc.1).1
      unfold okN at h2
      show (cnt _ _ _ _ _ _).2.1 ≤ 7
      omega
    · exact .nil
  split
  · split
    · exact appR_le ..
    · exact .nil
  split
  · exact .nil
  · exact .nil
theorem tail_true {α : Type} (r : Rep) (hr : okR r) (l : List Let) (hl : LE l) (F X : Option α) :
    (Option.bind (g12 r.1.1 r.1.2.1 r.1.2.2.1 r.1.2.2.2.1 r.1.2.2.2.2.1 r.1.2.2.2.2.2.1 r.1.2.2.2.2.2.2 r.2.1 r.2.2.1 r.2.2.2 r.1.1 r.1.2.1 r.1.2.2.1 r.1.2.2.2.1 r.1.2.2.2.2.1 r.1.2.2.2.2.2.1 r.1.2.2.2.2.2.2 r.2.1 r.2.2.1 r.2.2.2) fun v3 =>
        cond (!v3)
          F
          (Option.bind (g17 l l) fun v4 =>
          cond (!v4)
            F
            (Option.bind (g18 r.1.1 r.1.2.1 r.1.2.2.1 r.1.2.2.2.1 r.1.2.2.2.2.1 r.1.2.2.2.2.2.1 r.1.2.2.2.2.2.2 r.2.1 r.2.2.1 r.2.2.2) fun v5 =>
            Option.bind (g19 r.1.1 r.1.2.1 r.1.2.2.1 r.1.2.2.2.1 r.1.2.2.2.2.1 r.1.2.2.2.2.2.1 r.1.2.2.2.2.2.2 r.2.1 r.2.2.1 r.2.2.2) fun v6 =>
            Option.bind (g17 v5 v6) fun v7 =>
            cond (!v7)
              F
              (Option.bind (g21 r.1.1 r.1.2.1 r.1.2.2.1 r.1.2.2.2.1 r.1.2.2.2.2.1 r.1.2.2.2.2.2.1 r.1.2.2.2.2.2.2 r.2.1 r.2.2.1 r.2.2.2) fun v8 =>
              Option.bind (g22 r.1.1 r.1.2.1 r.1.2.2.1 r.1.2.2.2.1 r.1.2.2.2.2.1 r.1.2.2.2.2.2.1 r.1.2.2.2.2.2.2 r.2.1 r.2.2.1 r.2.2.2) fun v9 =>
              Option.bind (g20 v8 v9) fun v10 =>
              cond (!v10)
                F
                X)))) = X := by
  have hL := hr.len
  have hn := hr.nodes
  unfold okN at hn
  rw [same_self r (okB_len hr.bal) (by omega) (by have := hr.mlen7; omega)]
  simp only [Option.bind_some]
  rw [cf (b := !true) rfl, hl.self]
  simp only [Option.bind_some]
  rw [cf (b := !true) rfl, g18_eq (nd := r.1.1) (ns := r.1.2.1) (tm := r.1.2.2.1) (rl := r.1.2.2.2.1) (vd := r.1.2.2.2.2.1) (ld := r.1.2.2.2.2.2.1) (vs := r.1.2.2.2.2.2.2) (cm := r.2.1) (L := r.2.2.1) (mt := r.2.2.2) hr,
    g19_eq (nd := r.1.1) (ns := r.1.2.1) (tm := r.1.2.2.1) (rl := r.1.2.2.2.1) (vd := r.1.2.2.2.2.1) (ld := r.1.2.2.2.2.2.1) (vs := r.1.2.2.2.2.2.2) (cm := r.2.1) (L := r.2.2.1) (mt := r.2.2.2) hr]
  simp only [Option.bind_some]
  rw [(beatR_le (r := ((r.1.1, r.1.2.1, r.1.2.2.1, r.1.2.2.2.1, r.1.2.2.2.2.1, r.1.2.2.2.2.2.1, r.1.2.2.2.2.2.2), r.2.1, r.2.2.1, r.2.2.2)) (by dsimp only; omega)).self]
  simp only [Option.bind_some]
  rw [cf (b := !true) rfl, g21_eq hL hr.com, g22_eq hL hr.com]
  simp only [Option.bind_some]
  rw [str_self _ (by unfold cmtR; rw [List.length_map, List.length_take]; dsimp only; omega)]
  rfl
theorem plays_loop (A : List Op41) (hA : A.length ≤ 40) : ∀ (d j n : Nat) (r : Rep), j + d = A.length → d < n → okR r →
    loopN st3_0 n ((A, (A.length : Int), (j : Int)), r) = some (.inl ((), ()))
  | 0, j, n + 1, r, hj, hn, hr => by
    obtain ⟨⟨nd, ns, tm, rl, vd, ld, vs⟩, cm, L, mt⟩ := r
    rw [loopN_s]; dsimp only [st3_0]
    rw [cf (decide_eq_false (by omega))]
  | d + 1, j, n + 1, r, hj, hn, hr => by
    have ih := fun r => plays_loop A hA d (j + 1) n r (by omega) (by omega)
    obtain ⟨⟨nd, ns, tm, rl, vd, ld, vs⟩, cm, L, mt⟩ := r
    have hL : L.length ≤ 4096 := hr.len
    rw [loopN_s]; generalize loopN st3_0 n = LL at ih ⊢; dsimp only [st3_0]
    rw [ct (decide_eq_true (by omega)), ct (in_rng (by omega) (by omega)), Int.toNat_natCast, wrap_in (n := (j : Int) + 1) (by omega), show ((j : Int) + 1) = ((j + 1 : Nat) : Int) by omega]
    generalize A.getD j (0, [], 0, 0, 0, 0, 0, 0, 0, false, []) = op
    obtain ⟨ki, x, l⟩ := op
    by_cases k0 : ki = 0
    · rw [ct (by simpa using k0), g8_eq hr, g9_eq hr]
      simp only [Option.bind_some]
      have hk := hr.tmo
      have hl := tmoR_le hr
      generalize tmoR ((nd, ns, tm, rl, vd, ld, vs), cm, L, mt) = q at *
      exact (tail_true q.1 hk q.2 hl _ _).trans (ih q.1 hk)
    rw [cf (by simpa using k0)]
    by_cases k1 : ki = 1
    · rw [ct (by simpa using k1), g10_eq (nd := nd) (ns := ns) (tm := tm) (rl := rl) (vd := vd) (ld := ld) (vs := vs) (cm := cm) (L := L) (mt := mt) x hr, g11_eq (nd := nd) (ns := ns) (tm := tm) (rl := rl) (vd := vd) (ld := ld) (vs := vs) (cm := cm) (L := L) (mt := mt) x hr]
      simp only [Option.bind_some]
      by_cases hp : proE ((nd, ns, tm, rl, vd, ld, vs), cm, L, mt) x = 0
      · rw [if_pos hp]
        dsimp only
        rw [cf (by simp), cf (by simp), cf (by rfl)]
        have hk := hr.prop hp
        generalize propR ((nd, ns, tm, rl, vd, ld, vs), cm, L, mt) x = q at *
        exact (tail_true q hk [] .nil _ _).trans (ih q hk)
      · rw [if_neg hp]
        dsimp only
        rw [cf (by simp), cf (by simp), ct (by simpa using hp), same_self ((0, 0, 0, 0, 0, 0, []), 0, [], []) (by simp) (by simp) (by simp)]
        simp only [Option.bind_some]
        rw [cf (b := !true) rfl]
        exact (tail_true ((nd, ns, tm, rl, vd, ld, vs), cm, L, mt) hr [] .nil _ _).trans (ih _ hr)
    rw [cf (by simpa using k1)]
    by_cases k2 : ki = 2
    · rw [ct (by simpa using k2), g13_eq l hr, g14_eq l hr]
      simp only [Option.bind_some]
      have hk := hr.rcv l
      have hl := rcvR_le hr l
      generalize rcvR ((nd, ns, tm, rl, vd, ld, vs), cm, L, mt) l = q at *
      exact (tail_true q.1 hk q.2 hl _ _).trans (ih q.1 hk)
    · rw [cf (by simpa using k2), g15_eq hL, g16_eq hL]
      simp only [Option.bind_some]
      have hk := hr.rst
      generalize rstR ((nd, ns, tm, rl, vd, ld, vs), cm, L, mt) = q at *
      exact (tail_true q hk [] .nil _ _).trans (ih q hk)
theorem law_plays (r : Rep) (hr : -9223372036854775808 ≤ r.1.2.1 ∧ r.1.2.1 ≤ 9223372036854775807) (A : List Op41) (hA : A.length ≤ 9223372036854775807) : g3 r.1.1 r.1.2.1 r.1.2.2.1 r.1.2.2.2.1 r.1.2.2.2.2.1 r.1.2.2.2.2.2.1 r.1.2.2.2.2.2.2 r.2.1 r.2.2.1 r.2.2.2 A = some true := by
  unfold g3
  obtain ⟨b, h1, h2⟩ := g4_some r.1.1 r.1.2.1 r.1.2.2.1 r.1.2.2.2.1 r.1.2.2.2.2.1 r.1.2.2.2.2.2.1 r.2.1 r.1.2.2.2.2.2.2 r.2.2.1 r.2.2.2
  rw [h1, g7_true]
  simp only [Option.bind_some]
  cases b with
  | false => rfl
  | true =>
    obtain ⟨k1, k2, k3⟩ := h2 rfl
    rw [cf (b := !true) rfl]
    obtain ⟨b, h3, h4⟩ := g5_some A hA
    rw [h3]
    simp only [Option.bind_some]
    cases b with
    | false => rfl
    | true =>
      rw [cf (b := !true) rfl, g6_eq hr (by omega) (by omega) (by omega)]
      simp only [Option.bind_some]
      by_cases h : chkR r = 0
      rotate_left
      · rw [ct (by simpa using h)]
      have hok := chkR_iff.1 h
      have hl := plays_loop A (h4 rfl).1 A.length 0 fuel r (by omega) (by rw [fuel_eq]; omega) hok
      have hl' : h3_0 ((A, (A.length : Int), 0), (r.1.1, r.1.2.1, r.1.2.2.1, r.1.2.2.2.1, r.1.2.2.2.2.1, r.1.2.2.2.2.2.1, r.1.2.2.2.2.2.2), r.2.1, r.2.2.1, r.2.2.2) = _ := hl
      rw [cf (by simpa using h), hl']
      rfl
theorem ReplicaPlays {a0 : Rep} {a1 : List Op41} (h0 : Bd (.st (.pr (.st (.pr (.i .i64) (.pr (.i .i64) (.pr (.i .i64) (.pr (.i .i64) (.pr (.i .i64) (.pr (.i .i64) (.sl (.i .i64))))))))) (.pr (.i .i64) (.pr (.sl (.st (.pr (.i .i64) .s))) (.sl (.i .i64)))))) a0) (h1 : Bd (.sl (.st (.pr (.i .i64) (.pr .s (.st (.pr (.i .i64) (.pr (.i .i64) (.pr (.i .i64) (.pr (.i .i64) (.pr (.i .i64) (.pr (.i .i64) (.pr (.i .i64) (.pr .b (.sl (.st (.pr (.i .i64) .s)))))))))))))))) a1) : i3.G (a0, a1) = some true := by
  have hr : -9223372036854775808 ≤ a0.1.2.1 ∧ a0.1.2.1 ≤ 9223372036854775807 := by
    have := h0.1.2.1
    simp [Bd, Lit.wf, IntKind.min, IntKind.max, IntKind.signed, IntKind.bits] at this
    exact ⟨of_decide_eq_true this.1, of_decide_eq_true this.2⟩
  exact law_plays a0 hr a1 h1.1
end Go.Proofs.YtfadalgikdffeaaGreat.EVT
