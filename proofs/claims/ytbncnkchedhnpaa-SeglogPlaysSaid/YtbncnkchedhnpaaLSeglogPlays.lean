/- The law SeglogPlays: whatever is done with a log, the reference does the same. -/
import Derived.Test.YtbncnkchedhnpaaQE
set_option linter.unusedVariables false
set_option linter.unusedSimpArgs false
namespace Go.Proofs.Ytbncnkchedhnpaa.EVT
open Go Go.EV

theorem lRead_len (o : Int) (Ls : List (List RV)) (f n : Int) : (lRead o Ls f n).1.length ≤ (lgR o Ls).length := by
  unfold lRead
  split
  · simp
  · have := rdR_len f n (lgR o Ls) []
    simpa using this
theorem do_lg {lim : Int} {m : Nat} {o : Int} {Ls : List (List RV)} (h : WF lim m o Ls) (hm : m < 1000) (q A B ro rk : Int) (s v : List UInt8) :
    ∃ o' Ls', g21 lim (lgS o Ls) lim (lgS o Ls) q A B ro rk s v = some (some (lim, lgS o' Ls'), (lim, lgS o' Ls'), true) ∧ WF lim (m + 1) o' Ls' := by
  have hl : Ls.length ≤ 1000000 := by have := h.len; omega
  have hr : (lgR o Ls).length ≤ 2147483647 := by have := h.recs; omega
  have hb : ∀ x ∈ lgS o Ls, x.2.2.length ≤ 2147483647 := fun x hx => by have := lgOk_bytes Ls o h.ok x hx; omega
  unfold g21
  obtain ⟨Ms, M, e, hk, hbM, ha1, ha2⟩ := app_lg h rk s v
  have happ : WF lim (m + 1) o (aL lim o Ms M rk s v) := app_wf (by rw [← e]; exact h) hm rk s v
  by_cases h0 : (q.tmod 6 == 0) = true
  · rw [ct h0, ha1]
    simp only [Option.bind_some]
    rw [ha2]
    simp only [Option.bind_some]
    rw [ct (by simp)]
    exact ⟨o, _, by simp, happ⟩
  · rw [cf (by simpa using h0)]
    by_cases h1 : (q.tmod 6 == 1) = true
    · rw [ct h1, ha1]
      simp only [Option.bind_some]
      rw [ha2]
      simp only [Option.bind_some]
      rw [ct (by simp)]
      exact ⟨o, _, by simp, happ⟩
    · rw [cf (by simpa using h1)]
      by_cases h2 : (q.tmod 6 == 2) = true
      · rw [ct h2, Read_log lim o A B h.nn h.ok hl hr]
        simp only [Option.bind_some]
        rw [ref_Read_lg lim o A B h.nn h.ok hl hr]
        simp only [Option.bind_some]
        have hrl := lRead_len o Ls A B
        rw [SameR_eq _ (by omega)]
        simp only [Option.bind_some]
        rw [ct rfl]
        exact ⟨o, Ls, by simp, h.more hm⟩
      · rw [cf (by simpa using h2)]
        by_cases h3 : (q.tmod 6 == 3) = true
        · rw [ct h3, Drop_log lim o A h.nn h.ok hl]
          simp only [Option.bind_some]
          rw [ref_Drop_log lim o A h.nn h.ok hl]
          simp only [Option.bind_some]
          exact ⟨_, _, by simp, drop_wf h hm A⟩
        · rw [cf (by simpa using h3)]
          by_cases h4 : (q.tmod 6 == 4) = true
          · rw [ct h4, Cut_log lim o A h.nn h.ok hl]
            simp only [Option.bind_some]
            rw [ref_Cut_log lim o A h.nn h.ok hl]
            simp only [Option.bind_some]
            exact ⟨o, _, by simp, cut_wf h hm A⟩
          · rw [cf (by simpa using h4), Segments_eq lim _ (by rw [lgS_len]; exact hl) hb]
            simp only [Option.bind_some]
            rw [Open_eq lim _ (by rw [lgS_len]; have h5 := h.len; have h6 := h.m0; omega) (lgOk_next Ls o h.ok), lOpen_lg lim o ⟨h.l0, h.l1⟩ h.nn h.ok h.ne (by have h5 := h.recs; have h6 := h.m0; omega)]
            simp only [Option.bind_some, Option.elim]
            rw [ct (by simp)]
            exact ⟨o, Ls, rfl, h.more hm⟩
theorem play_loop (A : List WAct) (lim : Int) (hA : A.length ≤ 40) : ∀ (d j k : Nat) (o : Int) (Ls : List (List RV)), j + d = A.length → d < k → WF lim j o Ls →
    loopN st5_0 k ((A, (j : Int)), lgS o Ls, (lim, lgS o Ls), lim, ()) = some (.inl ((), ())) := by
  intro d
  induction d with
  | zero =>
    intro j k o Ls hj hd h
    cases k with
    | zero => omega
    | succ k =>
      rw [loopN_s]; generalize loopN st5_0 k = LL at *; dsimp only [st5_0]
      rw [cf (by (rw [Bool.eq_false_iff]; simp only [ne_eq, Bool.and_eq_true, Bool.or_eq_true, decide_eq_true_eq, beq_iff_eq, bne_iff_ne, Bool.not_eq_true', decide_eq_false_iff_not, and_true, true_and]; omega))]
  | succ d ih =>
    intro j k o Ls hj hd h
    cases k with
    | zero => omega
    | succ k =>
      have ih' := fun o Ls a => ih (j + 1) k o Ls (by omega) (by omega) a
      rw [loopN_s]; generalize loopN st5_0 k = LL at ih' ⊢; dsimp only [st5_0]
      rw [ct (by (simp only [ne_eq, Bool.and_eq_true, Bool.or_eq_true, decide_eq_true_eq, beq_iff_eq, bne_iff_ne, Bool.not_eq_true', decide_eq_false_iff_not, and_true, true_and]; omega)), ct (by (simp only [ne_eq, Bool.and_eq_true, Bool.or_eq_true, decide_eq_true_eq, beq_iff_eq, bne_iff_ne, Bool.not_eq_true', decide_eq_false_iff_not, and_true, true_and]; omega)), i64w (n := (j : Int) + 1) (by omega) (by omega)]
      generalize A.getD (Int.toNat j) (0, 0, 0, 0, 0, [], []) = x
      obtain ⟨o', Ls', e1, e2⟩ := do_lg h (by omega) x.1 x.2.1 x.2.2.1 x.2.2.2.1 x.2.2.2.2.1 x.2.2.2.2.2.1 x.2.2.2.2.2.2
      rw [e1]
      simp only [Option.bind_some, Option.elim]
      rw [cf (b := !true) rfl, same_lg lim lim o' e2.nn e2.ok (by have := e2.len; omega)]
      simp only [Option.bind_some]
      rw [cf (b := !true) rfl]
      exact ih' o' Ls' e2
theorem law_plays (a0 : Int) (A : List WAct) : g5 a0 A = some true := by
  unfold g5
  obtain ⟨r, hr, hr2⟩ := short_eq A
  rw [hr]
  simp only [Option.bind_some]
  cases r with
  | false => rw [ct (b := !false) rfl, awake34]; rfl
  | true =>
    have hA := hr2 rfl
    rw [cf (b := !true) rfl, New_eq]
    simp only [Option.bind_some]
    by_cases hl : a0 < 64 ∨ a0 > 65536
    · rw [if_pos hl, ref_New_eq, if_pos hl]
      simp only [Option.bind_some, Option.elim]
      rw [cf (by simp), cf (by simp), ct (by simp), awake34]; rfl
    · rw [if_neg hl, ref_New_eq, if_neg hl]
      simp only [Option.bind_some, Option.elim]
      rw [cf (by simp), cf (by simp), cf (by simp)]
      have := play_loop A a0 hA A.length 0 fuel 0 [[]] (by omega) (by rw [fuel_eq]; omega) (WF.new (by omega) (by omega))
      have this' : h5_0 ((A, 0), lgS 0 [[]], (a0, lgS 0 [[]]), a0, ()) = _ := this
      rw [this']
      simp only [Option.bind_some]
      rw [awake34]; rfl
theorem SeglogPlays {a0 : Ty.den (.i .i64)} {a1 : Ty.den (.sl (.st (.pr (.i .u8) (.pr (.i .i64) (.pr (.i .i64) (.st (.pr (.i .i64) (.pr (.i .i64) (.pr .s .s)))))))))} (h0 : Bd _ a0) (h1 : Bd _ a1) : i5.G (a0, a1) = some true :=
  law_plays a0 a1
end Go.Proofs.Ytbncnkchedhnpaa.EVT
