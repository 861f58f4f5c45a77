/- The law ReplicaKeeps: replicas stay valid, terms do not decrease, committed commands stay. -/
import Derived.Test.YtfadalgikdffeaaSC
import Derived.Test.YtfadalgikdffeaaUM
set_option linter.unusedVariables false
set_option linter.unusedSimpArgs false
namespace Go.Proofs.Ytfadalgikdffeaa.EVT
open Go Go.EV

def Kp (r x : Rep) : Prop := okR x ∧ r.1.2.2.1 ≤ x.1.2.2.1 ∧ r.2.1 ≤ x.2.1 ∧ x.2.2.1.take r.2.1.toNat = r.2.2.1.take r.2.1.toNat
theorem Kp.of {r x : Rep} (h : okR x) (ht : r.1.2.2.1 ≤ x.1.2.2.1) (hc : r.2.1 ≤ x.2.1) (hl : x.2.2.1 = r.2.2.1) : Kp r x := ⟨h, ht, hc, by rw [hl]⟩
theorem tmo_kp {r : Rep} (h : okR r) : Kp r (tmoR r).1 := by
  have hk := h.tmo
  have ht := camp_tm (b := r.1)
  unfold tmoR at hk ⊢
  split at hk
  · rename_i h1; rw [if_pos h1]; exact .of hk (Int.le_refl _) (Int.le_refl _) rfl
  · rename_i h1
    rw [if_neg h1]
    dsimp only at hk ⊢
    split at hk
    · rename_i h2; rw [if_pos h2]; exact .of hk ht (Int.le_refl _) rfl
    · rename_i h2; rw [if_neg h2]; exact .of hk ht (Int.le_refl _) rfl
theorem commit_ge (r : Rep) : r.2.1 ≤ (commitR r).2.1 := (comN_le (b := r.1) (L := r.2.2.1) (mt := r.2.2.2) (cm := r.2.1) r.2.2.1.length).1
theorem prop_kp {r : Rep} (h : okR r) {x : List UInt8} (hx : proE r x = 0) : Kp r (propR r x) := by
  refine ⟨h.prop hx, Int.le_refl _, commit_ge (r.1, r.2.1, _, _), ?_⟩
  have hc := h.com
  show (r.2.2.1 ++ [(r.1.2.2.1, x)]).take r.2.1.toNat = _
  rw [List.take_append_of_le_length (by omega)]
theorem rcv_kp {r : Rep} (h : okR r) (l : Let) : Kp r (rcvR r l).1 := by
  have hk := h.rcv l
  obtain ⟨kd, fr, tu, te, ix, pr, lcm, ye, es⟩ := l
  unfold rcvR at hk ⊢
  dsimp only at hk ⊢
  cases hc : con r.1.1 r.1.2.1 fr tu te with
  | false => rw [if_pos rfl]; exact .of h (Int.le_refl _) (Int.le_refl _) rfl
  | true =>
    rw [hc, if_neg (by decide)] at hk
    rw [if_neg (by decide)]
    obtain ⟨c1, c2, c3, c4, c5, c6⟩ := con_iff.1 hc
    split at hk
    · rename_i h1
      rw [if_pos h1]
      exact .of hk (ans_keeps h.bal kd fr tu te ix pr r.2.2.1.length (trm r.2.2.1 r.2.2.1.length)).1.2.2.2.1 (Int.le_refl _) rfl
    · rename_i h1
      rw [if_neg h1]
      split at hk
      · rename_i h2
        rw [if_pos h2]
        have hb := (cnt_keeps h.bal kd fr tu te ye).2.2.2.1
        split at hk
        · rename_i h3; rw [if_pos h3]; exact .of hk hb (Int.le_refl _) rfl
        · rename_i h3; rw [if_neg h3]; exact .of hk hb (Int.le_refl _) rfl
      · rename_i h2
        rw [if_neg h2]
        split at hk
        · rename_i h3
          rw [if_pos h3]
          split at hk
          · rename_i hs
            rw [if_pos hs]
            obtain ⟨s1, s2, s3, _⟩ := soundR_iff hs
            obtain ⟨a, rfl⟩ : ∃ a : Nat, ix = (a : Int) := ⟨ix.toNat, by omega⟩
            unfold appR at hk ⊢
            split at hk
            · rename_i h4; rw [if_pos h4]; exact .of h (Int.le_refl _) (Int.le_refl _) rfl
            · rename_i h4
              rw [if_neg h4]
              split at hk
              · rename_i h5; rw [if_pos h5]; exact .of h (Int.le_refl _) (Int.le_refl _) rfl
              · rename_i h5
                rw [if_neg h5]
                have ht := (h.folB (fr := fr) (te := te) (by omega) ⟨c5, c6⟩ ⟨c3, c4, c2⟩).2
                cases hq : takeR r (a : Int) pr lcm es with
                | none =>
                  rw [hq] at hk
                  exact .of hk (by show _ ≤ (folB r.1 te fr).2.2.1; omega) (Int.le_refl _) rfl
                | some q =>
                  rw [hq] at hk
                  obtain ⟨t1, t2, t3, t4, s, t5, t6, t7⟩ := takeR_spec hq
                  refine ⟨hk, by show _ ≤ (folB r.1 te fr).2.2.1; omega, by show _ ≤ q.1; omega, ?_⟩
                  show q.2.take _ = _
                  have hcm := h.com
                  rcases t7 with ⟨u1, u2⟩ | ⟨u1, u2, u3⟩
                  · rw [u2]
                  · rw [u2]
                    have hle : r.2.1.toNat ≤ a + s := by rcases u3 with u3 | ⟨u3, _⟩ <;> omega
                    rw [List.take_append_of_le_length (by rw [List.length_take]; omega), List.take_take, Nat.min_eq_left hle]
          · rename_i hs
            rw [if_neg hs]; exact .of h (Int.le_refl _) (Int.le_refl _) rfl
        · rename_i h3
          rw [if_neg h3]
          split at hk
          · rename_i h4
            rw [if_pos h4]
            dsimp only at hk ⊢
            unfold apdR at hk ⊢
            split at hk
            · rename_i h5
              rw [if_pos h5]
              exact .of hk (obs_keeps h.bal te).2.2.2.1 (Int.le_refl _) rfl
            · rename_i h5
              rw [if_neg h5]
              split at hk
              · rename_i h6; rw [if_pos h6]; exact .of h (Int.le_refl _) (Int.le_refl _) rfl
              · rename_i h6
                rw [if_neg h6]
                exact .of hk (Int.le_refl _) (commit_ge (r.1, r.2.1, r.2.2.1, _)) rfl
          · rename_i h4
            rw [if_neg h4]; exact .of h (Int.le_refl _) (Int.le_refl _) rfl
theorem chk_okR {r : Rep} (h : okR r) : g13 r.1.1 r.1.2.1 r.1.2.2.1 r.1.2.2.2.1 r.1.2.2.2.2.1 r.1.2.2.2.2.2.1 r.1.2.2.2.2.2.2 r.2.1 r.2.2.1 r.2.2.2 = some 0 := by
  have hn := h.nodes
  unfold okN at hn
  have h1 := okB_len h.bal
  have h2 := h.len
  have h3 := h.mlen7
  rw [g13_eq (by omega) (by omega) (by omega) (by omega)]
  exact congrArg some (chkR_iff.2 h)
theorem keep_loop {r : Rep} (h : okR r) (l : List Rep) (hl : l.length ≤ 10) (hk : ∀ x ∈ l, Kp r x) : ∀ (d j n : Nat), d + j = l.length → d < n →
    loopN st4_0 n (((l.length : Int), (j : Int)), l, r) = some (.inl ((), r))
  | 0, j, n + 1, hj, hn => by
    obtain ⟨⟨c1, c2, c3, c4, c5, c6, c7⟩, d1, d2, d3⟩ := r
    rw [loopN_s]; dsimp only [st4_0]
    rw [cf (decide_eq_false (by omega))]
  | d + 1, j, n + 1, hj, hn => by
    have ih := keep_loop h l hl hk d (j + 1) n (by omega) (by omega)
    have hj' : j < l.length := by omega
    obtain ⟨k1, k2, k3, k4⟩ := hk l[j] (List.getElem_mem hj')
    have hc := h.com
    have hL := h.len
    obtain ⟨⟨c1, c2, c3, c4, c5, c6, c7⟩, d1, d2, d3⟩ := r
    rw [loopN_s]; generalize loopN st4_0 n = LL at ih ⊢; dsimp only [st4_0]
    dsimp only at hc hL k2 k3 k4
    rw [ct (decide_eq_true (by omega)), ct (in_rng (by omega) (by omega)), Int.toNat_natCast, ct (decide_eq_true hj'), getD_at _ hj', wrap_in (n := (j : Int) + 1) (by omega), show ((j : Int) + 1) = ((j + 1 : Nat) : Int) by omega, chk_okR k1]
    have kc := k1.com
    simp only [Option.bind_some]
    rw [cf (by rfl), cf (decide_eq_false (by omega)), cf (decide_eq_false (by omega)), cf (decide_eq_false (by omega)), ct (in_rng2 (by omega) (by omega)), ct (in_rng2 (by omega) (by omega)), List.drop_zero, List.drop_zero, k4]
    rw [g18_self _ (by rw [List.length_take]; omega)]
    exact ih
theorem keep_end {r : Rep} (h : okR r) : (Option.bind (g19 r.1.1 r.1.2.1 r.1.2.2.1 r.1.2.2.2.1 r.1.2.2.2.2.1 r.1.2.2.2.2.2.1 r.1.2.2.2.2.2.2 r.2.1 r.2.2.1 r.2.2.2) fun v12 =>
    Option.bind (g13 v12.1.1 v12.1.2.1 v12.1.2.2.1 v12.1.2.2.2.1 v12.1.2.2.2.2.1 v12.1.2.2.2.2.2.1 v12.1.2.2.2.2.2.2 v12.2.1 v12.2.2.1 v12.2.2.2) fun v13 =>
    cond (v13 == 0)
      (cond (v12.1.2.2.1 == r.1.2.2.1)
        (cond (v12.1.2.2.2.2.1 == r.1.2.2.2.2.1)
          (cond (v12.2.1 == 0)
            (cond (v12.1.2.2.2.1 == 0)
              (Option.bind (g18 v12.2.2.1 r.2.2.1) fun v14 =>
              cond (v14)
                (Option.bind (g8) fun v15 =>
                some (v15))
                (some (false)))
              (some (false)))
            (some (false)))
          (some (false)))
        (some (false)))
      (some (false))) = some true := by
  have hL := h.len
  rw [g19_eq hL]
  simp only [Option.bind_some]
  have hr : okR (rstR ((r.1.1, r.1.2.1, r.1.2.2.1, r.1.2.2.2.1, r.1.2.2.2.2.1, r.1.2.2.2.2.2.1, r.1.2.2.2.2.2.2), r.2.1, r.2.2.1, r.2.2.2)) := h.rst
  rw [chk_okR hr]
  unfold rstR
  simp only [Option.bind_some, beq_self_eq_true, cond_true]
  rw [g18_self _ (by omega), g8_true]
  rfl
theorem law_keeps (r : Rep) (hr : -9223372036854775808 ≤ r.1.2.1 ∧ r.1.2.1 ≤ 9223372036854775807) (ki : Int) (x : List UInt8) (l : Let) : g4 r.1.1 r.1.2.1 r.1.2.2.1 r.1.2.2.2.1 r.1.2.2.2.2.1 r.1.2.2.2.2.2.1 r.1.2.2.2.2.2.2 r.2.1 r.2.2.1 r.2.2.2 ki x l.1 l.2.1 l.2.2.1 l.2.2.2.1 l.2.2.2.2.1 l.2.2.2.2.2.1 l.2.2.2.2.2.2.1 l.2.2.2.2.2.2.2.1 l.2.2.2.2.2.2.2.2 = some true := by
  unfold g4
  obtain ⟨b, h1, h2⟩ := g7_some r.1.1 r.1.2.1 r.1.2.2.1 r.1.2.2.2.1 r.1.2.2.2.2.1 r.1.2.2.2.2.2.1 r.2.1 r.1.2.2.2.2.2.2 r.2.2.1 r.2.2.2
  rw [h1, g8_true]
  simp only [Option.bind_some]
  cases b with
  | false => rfl
  | true =>
    obtain ⟨k1, k2, k3⟩ := h2 rfl
    rw [cf (b := !true) rfl]
    obtain ⟨b, h3, h4⟩ := g14_some [(ki, x, l)] (by simp)
    have h3' : g14 [(ki, x, l.1, l.2.1, l.2.2.1, l.2.2.2.1, l.2.2.2.2.1, l.2.2.2.2.2.1, l.2.2.2.2.2.2.1, l.2.2.2.2.2.2.2.1, l.2.2.2.2.2.2.2.2)] = some b := h3
    rw [h3']
    simp only [Option.bind_some]
    cases b with
    | false => rfl
    | true =>
      rw [cf (b := !true) rfl, g13_eq hr (by omega) (by omega) (by omega)]
      simp only [Option.bind_some]
      by_cases h : chkR r = 0
      rotate_left
      · rw [ct (by simpa using h)]
      have hok := chkR_iff.1 h
      rw [cf (by simpa using h), g15_eq hok, g16_eq l hok, g17_eq (nd := r.1.1) (ns := r.1.2.1) (tm := r.1.2.2.1) (rl := r.1.2.2.2.1) (vd := r.1.2.2.2.2.1) (ld := r.1.2.2.2.2.2.1) (vs := r.1.2.2.2.2.2.2) (cm := r.2.1) (L := r.2.2.1) (mt := r.2.2.2) x hok]
      simp only [Option.bind_some]
      have e0 : ((r.1.1, r.1.2.1, r.1.2.2.1, r.1.2.2.2.1, r.1.2.2.2.2.1, r.1.2.2.2.2.2.1, r.1.2.2.2.2.2.2), r.2.1, r.2.2.1, r.2.2.2) = r := rfl
      rw [e0]
      have hL := hok.len
      by_cases hp : proE r x = 0
      · rw [if_pos hp]
        have hpl : (propR r x).2.2.1 = r.2.2.1 ++ [(r.1.2.2.1, x)] := rfl
        dsimp only
        rw [hpl]
        have elen : ((r.2.2.1 ++ [(r.1.2.2.1, x)]).length : Int) = ((r.2.2.1.length + 1 : Nat) : Int) := by simp
        have eget : (r.2.2.1 ++ [(r.1.2.2.1, x)]).getD r.2.2.1.length (0, []) = (r.1.2.2.1, x) := by simp [List.getD_eq_getElem?_getD]
        have ew : IntKind.i64.wrap ((r.2.2.1.length : Int) + 1) = ((r.2.2.1.length + 1 : Nat) : Int) := wrap_in (by omega)
        rw [elen, ct (by rfl), ew, cf (by simp), cf (by simp), wrap_in (by omega), show ((r.2.2.1.length + 1 : Nat) : Int) - 1 = (r.2.2.1.length : Int) by omega, ct (in_rng (by omega) (by omega)), Int.toNat_natCast, eget, cf (by simp)]
        have hl := keep_loop hok [(tmoR r).1, (rcvR r l).1, propR r x] (by simp) (fun y hy => by
          simp only [List.mem_cons, List.not_mem_nil, or_false] at hy
          rcases hy with rfl | rfl | rfl
          · exact tmo_kp hok
          · exact rcv_kp hok l
          · exact prop_kp hok hp) 3 0 fuel (by simp) (by rw [fuel_eq]; omega)
        have hl' : h4_0 ((((([(tmoR r).1, (rcvR r l).1] ++ [propR r x]).length : Nat) : Int), 0), [(tmoR r).1, (rcvR r l).1] ++ [propR r x], (r.1.1, r.1.2.1, r.1.2.2.1, r.1.2.2.2.1, r.1.2.2.2.2.1, r.1.2.2.2.2.2.1, r.1.2.2.2.2.2.2), r.2.1, r.2.2.1, r.2.2.2) = _ := hl
        rw [hl']
        simp only [Option.bind_some]
        have he := keep_end hok
        rw [g8_true] at he
        exact he
      · rw [if_neg hp]
        dsimp only
        rw [cf (by simpa using hp)]
        have hl := keep_loop hok [(tmoR r).1, (rcvR r l).1] (by simp) (fun y hy => by
          simp only [List.mem_cons, List.not_mem_nil, or_false] at hy
          rcases hy with rfl | rfl
          · exact tmo_kp hok
          · exact rcv_kp hok l) 2 0 fuel (by simp) (by rw [fuel_eq]; omega)
        have hl' : h4_0 ((((2 : Nat) : Int), 0), [(tmoR r).1, (rcvR r l).1], (r.1.1, r.1.2.1, r.1.2.2.1, r.1.2.2.2.1, r.1.2.2.2.2.1, r.1.2.2.2.2.2.1, r.1.2.2.2.2.2.2), r.2.1, r.2.2.1, r.2.2.2) = _ := hl
        first | rw [hl'] | (simp only [Int.cast_ofNat_Int] at hl' ⊢; rw [hl'])
        simp only [Option.bind_some]
        have he := keep_end hok
        rw [g8_true] at he
        exact he
theorem ReplicaKeeps {a0 : Rep} {a1 : Op41} (h0 : Bd (.st (.pr (.st (.pr (.i .i64) (.pr (.i .i64) (.pr (.i .i64) (.pr (.i .i64) (.pr (.i .i64) (.pr (.i .i64) (.sl (.i .i64))))))))) (.pr (.i .i64) (.pr (.sl (.st (.pr (.i .i64) .s))) (.sl (.i .i64)))))) a0) (h1 : Bd (.st (.pr (.i .i64) (.pr .s (.st (.pr (.i .i64) (.pr (.i .i64) (.pr (.i .i64) (.pr (.i .i64) (.pr (.i .i64) (.pr (.i .i64) (.pr (.i .i64) (.pr .b (.sl (.st (.pr (.i .i64) .s))))))))))))))) a1) : i4.G (a0, a1) = some true := by
  have hr : -9223372036854775808 ≤ a0.1.2.1 ∧ a0.1.2.1 ≤ 9223372036854775807 := by
    have := h0.1.2.1
    simp [Bd, Lit.wf, IntKind.min, IntKind.max, IntKind.signed, IntKind.bits] at this
    exact ⟨of_decide_eq_true this.1, of_decide_eq_true this.2⟩
  exact law_keeps a0 hr a1.1 a1.2.1 a1.2.2
end Go.Proofs.Ytfadalgikdffeaa.EVT
