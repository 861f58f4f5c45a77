/- The law SeglogShort: segments are short, and follow one another. -/
import Derived.Test.YtbncnkchedhnpaaQE
set_option linter.unusedVariables false
set_option linter.unusedSimpArgs false
namespace Go.Proofs.Ytbncnkchedhnpaa.EVT
open Go Go.EV

/-- No room for the first record of the next one. -/
def link (lim o : Int) (L L' : List RV) : Prop := L' ≠ [] ∧ ∀ x r, L' = x :: r → ((segB o L).length : Int) + ((rec_ (o + (L.length : Int)) x.1 x.2.1 x.2.2).length : Int) > lim
def fitS (lim o : Int) (L : List RV) : Prop := ((segB o L).length : Int) ≤ lim ∨ L.length = 1
def tight (lim : Int) : Int → List (List RV) → Prop
  | _, [] => True
  | o, [L] => fitS lim o L
  | o, L :: L' :: Ls => fitS lim o L ∧ link lim o L L' ∧ tight lim (o + (L.length : Int)) (L' :: Ls)
theorem tight_ext {lim : Int} {M M' : List RV} : ∀ (Ms : List (List RV)) (o : Int), tight lim o (Ms ++ [M]) → (Ms ≠ [] → ∃ r', M' = M ++ r') → fitS lim (lgN o Ms) M' → tight lim o (Ms ++ [M'])
  | [], o, h, _, hf => hf
  | [L], o, h, hx, hf => by
    obtain ⟨h1, h2, h3⟩ := h
    obtain ⟨r', rfl⟩ := hx (by simp)
    refine ⟨h1, ⟨by intro e; exact h2.1 (by simpa using (List.append_eq_nil_iff.1 e).1), fun x r e => ?_⟩, hf⟩
    cases M with
    | nil => exact absurd rfl h2.1
    | cons y t =>
      simp only [List.cons_append, List.cons.injEq] at e
      obtain ⟨rfl, _⟩ := e
      exact h2.2 y t rfl
  | L :: L' :: Ms, o, h, hx, hf => by
    obtain ⟨h1, h2, h3⟩ := h
    exact ⟨h1, h2, tight_ext (L' :: Ms) _ h3 (fun _ => hx (by simp)) hf⟩
theorem tight_snoc {lim : Int} {M N : List RV} : ∀ (Ms : List (List RV)) (o : Int), tight lim o (Ms ++ [M]) → link lim (lgN o Ms) M N → fitS lim (lgN o Ms + (M.length : Int)) N → tight lim o (Ms ++ [M] ++ [N])
  | [], o, h, hl, hf => ⟨h, hl, hf⟩
  | [L], o, h, hl, hf => ⟨h.1, h.2.1, h.2.2, hl, hf⟩
  | L :: L' :: Ms, o, h, hl, hf => ⟨h.1, h.2.1, tight_snoc (L' :: Ms) _ h.2.2 hl hf⟩
theorem tight_ne {lim : Int} {M : List RV} : ∀ (Ms : List (List RV)) (o : Int), tight lim o (Ms ++ [M]) → Ms ≠ [] → M ≠ []
  | [], o, h, hn => absurd rfl hn
  | [L], o, h, _ => h.2.1.1
  | L :: L' :: Ms, o, h, _ => tight_ne (L' :: Ms) _ h.2.2 (by simp)
theorem app_tight {lim : Int} {m : Nat} {o : Int} {Ms : List (List RV)} {M : List RV} (h : WF lim m o (Ms ++ [M])) (ht : tight lim o (Ms ++ [M])) (k : Int) (s v : List UInt8) : tight lim o (aL lim o Ms M k s v) := by
  have hN := lgN_snoc o Ms M
  unfold aL
  by_cases h1 : chk (lgN o (Ms ++ [M])) k s v ≠ 0
  · rw [if_pos h1]; exact ht
  · rw [if_neg h1]
    by_cases h2 : lgN o (Ms ++ [M]) - o ≥ 4096
    · rw [if_pos h2]; exact ht
    · rw [if_neg h2]
      by_cases h3 : M ≠ [] ∧ ((segB (lgN o Ms) M).length : Int) + ((rec_ (lgN o (Ms ++ [M])) k s v).length : Int) > lim
      · rw [if_pos h3]
        refine tight_snoc Ms o ht ⟨by simp, fun x r e => ?_⟩ (.inr rfl)
        simp only [List.cons.injEq] at e
        obtain ⟨rfl, _⟩ := e
        rw [← hN]; exact h3.2
      · rw [if_neg h3]
        refine tight_ext Ms o ht (fun _ => ⟨_, rfl⟩) ?_
        by_cases hM : M = []
        · subst hM; exact .inr rfl
        · left
          rw [rec_app, List.length_append, ← hN]
          have : ¬ ((segB (lgN o Ms) M).length : Int) + ((rec_ (lgN o (Ms ++ [M])) k s v).length : Int) > lim := fun h => h3 ⟨hM, h⟩
          omega
theorem put2_loop (A : List WAct) (lim a0 : Int) (hA : A.length ≤ 40) : ∀ (d j k : Nat) (Ls : List (List RV)), j + d = A.length → d < k → WF lim j 0 Ls → tight lim 0 Ls →
    ∃ Ls', loopN st4_0 k ((a0, A, (j : Int)), lgS 0 Ls, lim, ()) = some (.inl (a0, (lim, ()), lgS 0 Ls')) ∧ WF lim (j + d) 0 Ls' ∧ tight lim 0 Ls' := by
  intro d
  induction d with
  | zero =>
    intro j k Ls hj hd h ht
    cases k with
    | zero => omega
    | succ k =>
      rw [loopN_s]; generalize loopN st4_0 k = LL at *; dsimp only [st4_0]
      rw [cf (by (rw [Bool.eq_false_iff]; simp only [ne_eq, Bool.and_eq_true, Bool.or_eq_true, decide_eq_true_eq, beq_iff_eq, bne_iff_ne, Bool.not_eq_true', decide_eq_false_iff_not, and_true, true_and]; omega))]
      exact ⟨Ls, rfl, h, ht⟩
  | succ d ih =>
    intro j k Ls hj hd h ht
    cases k with
    | zero => omega
    | succ k =>
      have ih' := fun Ls a b => ih (j + 1) k Ls (by omega) (by omega) a b
      rw [loopN_s]; generalize loopN st4_0 k = LL at ih' ⊢; dsimp only [st4_0]
      rw [ct (by (simp only [ne_eq, Bool.and_eq_true, Bool.or_eq_true, decide_eq_true_eq, beq_iff_eq, bne_iff_ne, Bool.not_eq_true', decide_eq_false_iff_not, and_true, true_and]; omega)), ct (by (simp only [ne_eq, Bool.and_eq_true, Bool.or_eq_true, decide_eq_true_eq, beq_iff_eq, bne_iff_ne, Bool.not_eq_true', decide_eq_false_iff_not, and_true, true_and]; omega)), ct (by (simp only [ne_eq, Bool.and_eq_true, Bool.or_eq_true, decide_eq_true_eq, beq_iff_eq, bne_iff_ne, Bool.not_eq_true', decide_eq_false_iff_not, and_true, true_and]; omega)), ct (by (simp only [ne_eq, Bool.and_eq_true, Bool.or_eq_true, decide_eq_true_eq, beq_iff_eq, bne_iff_ne, Bool.not_eq_true', decide_eq_false_iff_not, and_true, true_and]; omega)), i64w (n := (j : Int) + 1) (by omega) (by omega)]
      generalize A.getD (Int.toNat j) (0, 0, 0, 0, 0, [], []) = x
      obtain ⟨Ms, M, e, hk, hbM, ha1, ha2⟩ := app_lg h x.2.2.2.2.1 x.2.2.2.2.2.1 x.2.2.2.2.2.2
      have hw : WF lim j 0 (Ms ++ [M]) := by rw [← e]; exact h
      obtain ⟨Ls', g1, g2, g3⟩ := ih' _ (app_wf hw (by omega) x.2.2.2.2.1 x.2.2.2.2.2.1 x.2.2.2.2.2.2) (app_tight hw (by rw [← e]; exact ht) x.2.2.2.2.1 x.2.2.2.2.2.1 x.2.2.2.2.2.2)
      rw [show j + 1 + d = j + (d + 1) by omega] at g2
      refine ⟨Ls', ?_, g2, g3⟩
      rw [ha1]
      exact g1
theorem tight_cons {lim o : Int} {L : List RV} {Ls : List (List RV)} (h : tight lim o (L :: Ls)) : fitS lim o L ∧ tight lim (o + (L.length : Int)) Ls ∧ ∀ L' Ls', Ls = L' :: Ls' → link lim o L L' := by
  cases Ls with
  | nil => exact ⟨h, trivial, by simp⟩
  | cons L' Ls => exact ⟨h.1, h.2.2, fun L2 Ls2 e => by cases e; exact h.2.1⟩
theorem see_loop (lim : Int) (N : Nat) (hN : N ≤ 1000) (hlim : lim ≤ 65536) : ∀ (Ls : List (List RV)) (o : Int) (P : List Seg) (k : Nat), lgOk o Ls → tight lim o Ls → P.length + Ls.length = N → Ls.length < k →
    (P = [] ∨ ∃ P' o' L', P = P' ++ [sg o' L'] ∧ o = o' + (L'.length : Int) ∧ (segB o' L').length ≤ 65536 ∧ ∀ L Ls', Ls = L :: Ls' → link lim o' L' L) →
    loopN st4_1 k ((lim, P ++ lgS o Ls, (P.length : Int)), ()) = some (.inl (P ++ lgS o Ls, ())) := by
  intro Ls
  induction Ls with
  | nil =>
    intro o P k hok ht hP hd hlk
    cases k with
    | zero => simp at hd
    | succ k =>
      rw [loopN_s]; generalize loopN st4_1 k = LL at *; dsimp only [st4_1]
      rw [cf (by simp [lgS])]
  | cons L Ls ih =>
    intro o P k hok ht hP hd hlk
    cases k with
    | zero => simp at hd
    | succ k =>
      obtain ⟨o0, o1, hk, hb, hL, hok'⟩ := lgOk_cons hok
      obtain ⟨t1, t2, t3⟩ := tight_cons ht
      simp only [List.length_cons] at hP hd
      have ih' := ih (o + (L.length : Int)) (P ++ [sg o L]) k hok' t2 (by simp; omega) (by omega) (.inr ⟨P, o, L, rfl, rfl, hb, t3⟩)
      have eS : P ++ [sg o L] ++ lgS (o + (L.length : Int)) Ls = P ++ lgS o (L :: Ls) := by simp [lgS]
      have eP : ((P ++ [sg o L]).length : Int) = (P.length : Int) + 1 := by simp
      rw [eS, eP] at ih'
      rw [loopN_s]; generalize loopN st4_1 k = LL at ih' ⊢; dsimp only [st4_1]
      have hlen : (P ++ lgS o (L :: Ls)).length = N := by simp [lgS_len]; omega
      have hat : (P ++ lgS o (L :: Ls)).getD P.length (0, 0, []) = sg o L := getD_mid P _ _ _
      have hin : (decide (0 ≤ (P.length : Int)) && decide ((P.length : Int) < ((P ++ lgS o (L :: Ls)).length : Int))) = true := by rw [hlen]; (simp only [ne_eq, Bool.and_eq_true, Bool.or_eq_true, decide_eq_true_eq, beq_iff_eq, bne_iff_ne, Bool.not_eq_true', decide_eq_false_iff_not, and_true, true_and]; omega)
      rw [ct (by rw [hlen]; (simp only [ne_eq, Bool.and_eq_true, Bool.or_eq_true, decide_eq_true_eq, beq_iff_eq, bne_iff_ne, Bool.not_eq_true', decide_eq_false_iff_not, and_true, true_and]; omega)), ct hin, Int.toNat_natCast, hat]
      show Option.bind (g17 o (o + (L.length : Int)) (segB o L)) _ = _
      rw [ref_seg_Check_eq, sChk_of o0 o1 hk hb]
      simp only [Option.bind_some]
      rw [cf (by simp), ct hin, i64w (n := (P.length : Int) + 1) (by omega) (by omega)]
      have hr : g18 (sg o L).1 (sg o L).2.1 (sg o L).2.2 = some (recL o L) := ref_Records_eq hk rfl hb o (o + (L.length : Int))
      -- what comes behind the first segment
      by_cases h0 : (P.length : Int) > 0
      · rcases hlk with rfl | ⟨P', o', L', rfl, e1, e2, e3⟩
        · simp at h0
        · obtain ⟨l1, l2⟩ := e3 L Ls rfl
          cases L with
          | nil => exact absurd rfl l1
          | cons x r =>
            have l3 := l2 x r rfl
            have hck : chk o x.1 x.2.1 x.2.2 = 0 := hk.1
            have hrl := rec_len hck
            rw [← e1] at l3
            have ew : IntKind.i64.wrap (((P' ++ [sg o' L']).length : Int) - 1) = (P'.length : Int) := by
              have hpl : (P' ++ [sg o' L']).length = P'.length + 1 := by simp
              rw [hpl, i64w (by omega) (by omega)]; omega
            have hat2 : (P' ++ [sg o' L'] ++ lgS o ((x :: r) :: Ls)).getD P'.length (0, 0, []) = sg o' L' := by rw [List.append_assoc]; exact getD_mid P' _ _ _
            have hin2 : (decide (0 ≤ (P'.length : Int)) && decide ((P'.length : Int) < ((P' ++ [sg o' L'] ++ lgS o ((x :: r) :: Ls)).length : Int))) = true := by
              rw [hlen]; simp only [List.length_append, List.length_cons, List.length_nil] at hP; (simp only [ne_eq, Bool.and_eq_true, Bool.or_eq_true, decide_eq_true_eq, beq_iff_eq, bne_iff_ne, Bool.not_eq_true', decide_eq_false_iff_not, and_true, true_and]; omega)
            have hs : g19 (List.getD (recL o (x :: r)) (Int.toNat 0) (0, 0, [], [])).1 (List.getD (recL o (x :: r)) (Int.toNat 0) (0, 0, [], [])).2.1 (List.getD (recL o (x :: r)) (Int.toNat 0) (0, 0, [], [])).2.2.1 (List.getD (recL o (x :: r)) (Int.toNat 0) (0, 0, [], [])).2.2.2 = some (((rec_ o x.1 x.2.1 x.2.2).length : Nat) : Int) := by
              have : List.getD (recL o (x :: r)) (Int.toNat 0) (0, 0, [], []) = (o, x.1, x.2.1, x.2.2) := rfl
              rw [this, ref_Size_eq]
              unfold rEnc
              rw [if_pos hck]
            have hl0 : (((recL o (x :: r)).length : Nat) : Int) = (r.length : Int) + 1 := by rw [recL_len]; simp
            have hA : ((sg o (x :: r)).1 != (sg o' L').2.1) = false := by show (o != o' + (L'.length : Int)) = false; rw [e1]; simp
            have hB : ((((recL o (x :: r)).length : Nat) : Int) == 0) = false := by rw [hl0]; (rw [Bool.eq_false_iff]; simp only [ne_eq, Bool.and_eq_true, Bool.or_eq_true, decide_eq_true_eq, beq_iff_eq, bne_iff_ne, Bool.not_eq_true', decide_eq_false_iff_not, and_true, true_and]; omega)
            have hC : decide (IntKind.i64.wrap (((List.length (sg o' L').2.2 : Nat) : Int) + (((rec_ o x.1 x.2.1 x.2.2).length : Nat) : Int)) ≤ lim) = false := by
              show decide (IntKind.i64.wrap (((segB o' L').length : Int) + _) ≤ lim) = false
              rw [i64w (by omega) (by omega)]; exact decide_eq_false (by omega)
            by_cases hbig : (((sg o (x :: r)).2.2.length : Nat) : Int) > lim
            · rw [ct (decide_eq_true hbig), ct hin, ct hin]
              have h1 : (x :: r).length = 1 := by
                rcases t1 with t1 | t1
                · exact absurd hbig (by show ¬ ((segB o (x :: r)).length : Int) > lim; omega)
                · exact t1
              rw [cf (by
                show (IntKind.i64.wrap (o + (((x :: r).length : Nat) : Int) - o) != 1) = false
                rw [h1, i64w (by omega) (by omega)]; (rw [Bool.eq_false_iff]; simp only [ne_eq, Bool.and_eq_true, Bool.or_eq_true, decide_eq_true_eq, beq_iff_eq, bne_iff_ne, Bool.not_eq_true', decide_eq_false_iff_not, and_true, true_and]; omega)), ct (decide_eq_true h0), ct hin, hr]
              simp only [Option.bind_some]
              rw [ct hin, ew, ct hin2, Int.toNat_natCast, hat2]
              rw [cf hA, cf hB, ct hin2, ct (by rw [hl0]; (simp only [ne_eq, Bool.and_eq_true, Bool.or_eq_true, decide_eq_true_eq, beq_iff_eq, bne_iff_ne, Bool.not_eq_true', decide_eq_false_iff_not, and_true, true_and]; omega)), hs]
              simp only [Option.bind_some]
              rw [cf hC]
              exact ih'
            · rw [cf (decide_eq_false hbig), ct (decide_eq_true h0), ct hin, hr]
              simp only [Option.bind_some]
              rw [ct hin, ew, ct hin2, Int.toNat_natCast, hat2]
              rw [cf hA, cf hB, ct hin2, ct (by rw [hl0]; (simp only [ne_eq, Bool.and_eq_true, Bool.or_eq_true, decide_eq_true_eq, beq_iff_eq, bne_iff_ne, Bool.not_eq_true', decide_eq_false_iff_not, and_true, true_and]; omega)), hs]
              simp only [Option.bind_some]
              rw [cf hC]
              exact ih'
      · by_cases hbig : (((sg o L).2.2.length : Nat) : Int) > lim
        · rw [ct (decide_eq_true hbig), ct hin, ct hin]
          have h1 : L.length = 1 := by
            rcases t1 with t1 | t1
            · exact absurd hbig (by show ¬ ((segB o L).length : Int) > lim; omega)
            · exact t1
          rw [cf (by
            show (IntKind.i64.wrap (o + (L.length : Int) - o) != 1) = false
            rw [h1, i64w (by omega) (by omega)]; (rw [Bool.eq_false_iff]; simp only [ne_eq, Bool.and_eq_true, Bool.or_eq_true, decide_eq_true_eq, beq_iff_eq, bne_iff_ne, Bool.not_eq_true', decide_eq_false_iff_not, and_true, true_and]; omega)), cf (decide_eq_false h0)]
          exact ih'
        · rw [cf (decide_eq_false hbig), cf (decide_eq_false h0)]
          exact ih'
theorem law_short (a0 : Int) (A : List WAct) : g4 a0 A = some true := by
  unfold g4
  obtain ⟨r, hr, hr2⟩ := short_eq A
  rw [hr]
  simp only [Option.bind_some]
  cases r with
  | false => rw [ct (b := !false) rfl, awake34]; rfl
  | true =>
    have hA := hr2 rfl
    rw [cf (b := !true) rfl]
    by_cases h1 : a0 < 64
    · rw [ct (by (simp only [ne_eq, Bool.and_eq_true, Bool.or_eq_true, decide_eq_true_eq, beq_iff_eq, bne_iff_ne, Bool.not_eq_true', decide_eq_false_iff_not, and_true, true_and]; omega)), awake34]; rfl
    · rw [cf (by (rw [Bool.eq_false_iff]; simp only [ne_eq, Bool.and_eq_true, Bool.or_eq_true, decide_eq_true_eq, beq_iff_eq, bne_iff_ne, Bool.not_eq_true', decide_eq_false_iff_not, and_true, true_and]; omega))]
      by_cases h2 : a0 > 65536
      · rw [ct (by (simp only [ne_eq, Bool.and_eq_true, Bool.or_eq_true, decide_eq_true_eq, beq_iff_eq, bne_iff_ne, Bool.not_eq_true', decide_eq_false_iff_not, and_true, true_and]; omega)), awake34]; rfl
      · rw [cf (by (rw [Bool.eq_false_iff]; simp only [ne_eq, Bool.and_eq_true, Bool.or_eq_true, decide_eq_true_eq, beq_iff_eq, bne_iff_ne, Bool.not_eq_true', decide_eq_false_iff_not, and_true, true_and]; omega)), New_eq, if_neg (by omega)]
        simp only [Option.bind_some, Option.elim]
        rw [cf (by simp)]
        obtain ⟨Ls, g1, g2, g3⟩ := put2_loop A a0 a0 hA A.length 0 fuel [[]] (by omega) (by rw [fuel_eq]; omega) (WF.new (by omega) (by omega)) (.inl (by simp [segB]; omega))
        have g1' : h4_0 ((a0, A, 0), lgS 0 [[]], a0, ()) = some (.inl (a0, (a0, ()), lgS 0 Ls)) := g1
        rw [g1']
        simp only [Option.bind_some]
        have hl := g2.len
        rw [Segments_eq a0 _ (by rw [lgS_len]; omega) (fun x hx => by have := lgOk_bytes Ls 0 g2.ok x hx; omega)]
        simp only [Option.bind_some]
        have hs := see_loop a0 Ls.length (by omega) (by omega) Ls 0 [] fuel g2.ok g3 (by simp) (by rw [fuel_eq]; omega) (.inl rfl)
        have hs' : h4_1 ((a0, lgS 0 Ls, 0), ()) = some (.inl (lgS 0 Ls, ())) := hs
        rw [hs']
        simp only [Option.bind_some]
        have hp := List.length_pos_iff.2 g2.nn
        have hh := lgS_head 0 g2.nn
        rw [ct (by rw [lgS_len]; (simp only [ne_eq, Bool.and_eq_true, Bool.or_eq_true, decide_eq_true_eq, beq_iff_eq, bne_iff_ne, Bool.not_eq_true', decide_eq_false_iff_not, and_true, true_and]; omega)), ct (by rw [lgS_len]; (simp only [ne_eq, Bool.and_eq_true, Bool.or_eq_true, decide_eq_true_eq, beq_iff_eq, bne_iff_ne, Bool.not_eq_true', decide_eq_false_iff_not, and_true, true_and]; omega))]
        rw [ct (by show ((lgS 0 Ls).getD 0 sg0).1 == 0; rw [hh]; simp), awake34]
        rfl
theorem SeglogShort {a0 : Ty.den (.i .i64)} {a1 : Ty.den (.sl (.st (.pr (.i .u8) (.pr (.i .i64) (.pr (.i .i64) (.st (.pr (.i .i64) (.pr (.i .i64) (.pr .s .s)))))))))} (h0 : Bd _ a0) (h1 : Bd _ a1) : i4.G (a0, a1) = some true :=
  law_short a0 a1
end Go.Proofs.Ytbncnkchedhnpaa.EVT
