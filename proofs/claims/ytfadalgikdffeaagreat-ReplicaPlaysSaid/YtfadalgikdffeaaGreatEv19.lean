/- What is done at a loop's head changes nothing in the machine. -/
import Derived.Test.YtfadalgikdffeaaGreatEv18
set_option linter.unusedVariables false
set_option linter.unusedSimpArgs false
namespace Go.EV
open Go.RowKit
section
variable {w0 : World} {F0 F : Nat → Prop} {Pb : PB} {A : Nat → Option RA} {S : St} {w : World} {N : Nat} {tm : Nat → Value}
theorem Inv.none_of (h : Inv w0 F0 Pb F A S tm w) {g : Nat} (hg : S.r g = none) : A g = none := by
  cases hA : A g with
  | none => rfl
  | some rb => obtain ⟨y, hy⟩ := h.lv g rb hA; rw [hg] at hy; cases hy
theorem sub_upd {g : Nat} (hA : A g = none) (ra : RA) : ASub A (upd A g (some ra)) := fun k rb hk => by
  unfold upd
  by_cases e : k = g
  · subst e; rw [hA] at hk; cases hk
  · simpa [e] using hk
theorem Inv.addVoid (h : Inv w0 F0 Pb F A S tm w) {g d : Nat} (hg : S.r g = none) (hl : g < nlim) : Inv w0 F0 Pb F (upd A g (some ⟨0, 0, 0, d, 0⟩)) (setR S g (.ar d [])) tm w :=
  h.add (g := g) hg (ra := ⟨0, 0, 0, d, 0⟩) (x := .ar d []) (c := []) ⟨by simp [Rc, Rf, RfE], by simp, ⟨rfl, rfl⟩, fun h => by simp at h⟩ (fun h => by simp at h) (nl hl)
theorem Inv.setX (h : Inv w0 F0 Pb F A S tm w) {t : Nat} {x : X} (hx : Rv w F A x (tm t)) : Inv w0 F0 Pb F A (setT S t x) tm w := by
  refine { h with tv := fun v => ?_ }
  simp only [setT, upd]
  by_cases e : v = t
  · subst e; simpa using hx
  · simpa [e] using h.tv v
theorem sl_empty {v : Value} (h : Rv w F A (.sl true []) v) : ∃ a, v = .slice a 0 0 := by
  obtain ⟨a, c, rfl, h1, h2, _⟩ := sl_of h
  have := h2 rfl
  simp at this
  subst this
  exact ⟨a, rfl⟩
theorem hw_void {g d : Nat} {A : Nat → Option RA} (hA : A g = some ⟨0, 0, 0, d, 0⟩) (a : Option Addr) : Rv w F A (.hw g) (.slice a 0 0) := by
  have := hw_ok (w := w) (F := F) (A := A) (g := g) (ra := ⟨0, 0, 0, d, 0⟩) (a := a) (c := 0) hA (by simp) (by simp) (.inl rfl)
  exact this
theorem Inv.recontent (h : Inv w0 F0 Pb F A S tm w) {g : Nat} {c c' : X} (hg : S.r g = some c) (hc : ∀ ra cs, A g = some ra → RootOk w F A ra c cs → Rc w F A c' cs) (har : c'.arD = c.arD) (hsz : c'.size = c.size) : Inv w0 F0 Pb F A (setR S g c') tm w := by
  refine { h with rv := fun k x hx => ?_, lv := fun k rb hk => ?_ }
  · simp only [setR, upd] at hx
    by_cases e : k = g
    · subst e
      simp at hx; subst hx
      obtain ⟨ra, cs, h1, h2⟩ := h.rv k c hg
      exact ⟨ra, cs, h1, ⟨hc ra cs h1 h2, h2.cap, dimOk_congr har hsz h2.dim, h2.own⟩⟩
    · simp only [e, if_false] at hx
      exact h.rv k x hx
  · by_cases e : k = g
    · subst e; exact ⟨c', by simp [setR, upd]⟩
    · obtain ⟨x, hx⟩ := h.lv k rb hk
      exact ⟨x, by simpa [setR, upd, e] using hx⟩
theorem killL_map (p : Nat → Bool) : ∀ xs : List X, killL p xs = xs.map (X.kill p)
  | [] => rfl
  | x :: xs => by simp only [killL, List.map_cons, killL_map p xs]
theorem nav_kill (p : Nat → Bool) : ∀ {q : List Nat} {c y : X} {o : Nat}, inAr c q = false → nav c q = some (y, o) → nav (c.kill p) q = some (y.kill p, o)
  | [], c, y, o, hi, h => by
    simp only [nav, Option.some.injEq, Prod.mk.injEq] at h
    obtain ⟨rfl, rfl⟩ := h
    cases c <;> simp [nav]
  | f :: q, .ag xs, y, o, hi, h => by
    obtain ⟨z, o', hz, hn, ho⟩ := nav_cons_ag h
    simp only at hn ho
    simp only [inAr, hz] at hi
    have ih := nav_kill p hi hn
    simp only [X.kill, nav, killL_map, List.getElem?_map, hz, Option.map_some, ih, ← List.map_take, Option.some.injEq, Prod.mk.injEq, true_and]
    rw [← killL_map, sizeL_kill, ho]
  | f :: q, .ar d xs, y, o, hi, h => by simp [inAr] at hi
  | f :: q, .bot, y, o, hi, h | f :: q, .b _, y, o, hi, h | f :: q, .i _ _, y, o, hi, h | f :: q, .s _, y, o, hi, h | f :: q, .tup _, y, o, hi, h | f :: q, .sl _ _, y, o, hi, h
  | f :: q, .hw _, y, o, hi, h | f :: q, .hd _ _ _ _, y, o, hi, h | f :: q, .np, y, o, hi, h | f :: q, .pt _ _ _, y, o, hi, h | f :: q, .pf _, y, o, hi, h | f :: q, .nm, y, o, hi, h
  | f :: q, .nf, y, o, hi, h | f :: q, .fn _ _, y, o, hi, h | f :: q, .ow _ _, y, o, hi, h | f :: q, .ob _, y, o, hi, h => by simp [nav] at h
/-- A place gets another name. -/
theorem Inv.rename (h : Inv w0 F0 Pb F A S tm w) {k g : Nat} {c : X} (hk : S.r k = some c) (hg : S.r g = none) (hl : g < nlim) : ∃ ra, A k = some ra ∧ Inv w0 F0 Pb F (upd (gone A (· == k)) g (some ra)) (setR (EV.dropIf S (· == k)) g (c.kill (· == k))) tm w := by
  obtain ⟨ra, cs, hA, hok⟩ := h.rv k c hk
  have h1 := h.dropIf (· == k)
  have hgn : (EV.dropIf S (· == k)).r g = none := by simp only [EV.dropIf]; split <;> simp [hg]
  have hAg := h1.none_of hgn
  refine ⟨ra, hA, h1.add (g := g) hgn (ra := ra) (x := c.kill (· == k)) (c := cs) ⟨rc_mono (fun _ h => h) (fun _ _ => rfl) (sub_upd hAg ra) (rc_kill hok.rc), hok.cap, dimOk_congr (arD_kill _ c) (size_kill _ c) hok.dim, hok.own⟩ (fun hc => ?_) (nl hl)⟩
  obtain ⟨n1, n2, n3⟩ := h.nw k ra hA hc
  refine ⟨n1, n2, n3, fun j rb hj hcj => ?_⟩
  obtain ⟨j1, j2⟩ := gone_some hj
  exact h.sep k j ra rb hA j2 (by simpa using Ne.symm (by simpa using j1)) hc hcj
/-- Part of an array, as an array of its own. -/
theorem Inv.renameCut (h : Inv w0 F0 Pb F A S tm w) {k g d : Nat} {c : List X} (hk : S.r k = some (.ar d c)) {ra : RA} (hA : A k = some ra) {lo len cp : Nat} (hg : (EV.dropIf S (· == k)).r g = none) (hl : g < nlim) (h1 : len ≤ cp) (h2 : lo + cp ≤ ra.cap) (h3 : lo + len ≤ ra.n) :
    Inv w0 F0 Pb F (upd (gone A (· == k)) g (some ⟨ra.b, ra.o + lo * ra.d, cp, ra.d, len⟩)) (setR (EV.dropIf S (· == k)) g (.ar d (mid lo len c))) tm w := by
  obtain ⟨pc, hpc, hdd, hn, hcap, hown⟩ := h.places.ar hk hA
  have hd1 := h.dropIf (· == k)
  have hm : (mid lo len c).length = len := by simp [mid]; omega
  refine hd1.add (g := g) hg (ra := ⟨ra.b, ra.o + lo * ra.d, cp, ra.d, len⟩) (x := .ar d (mid lo len c)) (c := (pc.drop (lo * d)).take (len * d)) ⟨?_, h1, ⟨hdd, hm.symm⟩, fun hc => ?_⟩ (fun hc => ?_) (nl hl)
  · simp only [Rc, Rf]
    exact rfE_mid lo len hpc
  · simp only at hc
    obtain ⟨all, e', fz, o1, o2, o3, o4⟩ := hown (by omega)
    refine ⟨all, e', fz, o1, fun j u hu => ?_, ?_, o4⟩
    · rw [List.getElem?_take] at hu
      split at hu
      · rw [List.getElem?_drop] at hu
        have := o2 _ u hu
        simp only
        rw [hdd, show ra.o + lo * d + j = ra.o + (lo * d + j) by omega]
        exact this
      · cases hu
    · simp only
      have : (lo + cp) * d ≤ ra.cap * d := Nat.mul_le_mul_right _ h2
      rw [Nat.add_mul] at this
      rw [hdd] at o3 ⊢; omega
  · simp only at hc ⊢
    obtain ⟨n1, n2, n3⟩ := h.nw k ra hA (by omega)
    refine ⟨n1, n2, n3, fun j rb hj hcj => ?_⟩
    obtain ⟨j1, j2⟩ := gone_some hj
    exact h.sep k j ra rb hA j2 (by simpa using Ne.symm (by simpa using j1)) (by omega) hcj
/-- The place b then has the slice over the array g. -/
theorem Inv.graftAt (h : Inv w0 F0 Pb F A S tm w) {b k g o : Nat} {c y nc : X} {p : List Nat} (hn : nav c p = some (y, o)) {ra : RA} {cs c1 c2 c3 : List Value} (hAb : A b = some ra) (hok : RootOk w F A ra c cs) (e1 : cs = c1 ++ (c2 ++ c3)) (hl1 : c1.length = o) (hlen1 : c2.length = 1) (hia : inAr c p = false) (hkb : (k == b) = false) (hkl : y.kill (· == k) = .bot) (hbg : b ≠ g) {rk : RA}
    (h2' : Inv w0 F0 Pb F (upd (gone A (· == k)) g (some rk)) (setR (EV.dropIf S (· == k)) g nc) tm w) (hgA : gone A (· == k) g = none) (hv : Rc w F (upd (gone A (· == k)) g (some rk)) (.hw g) c2) :
    Inv w0 F0 Pb F (upd (gone A (· == k)) g (some rk)) (setR (setR (EV.dropIf S (· == k)) g nc) b (setAt (c.kill (· == k)) p (.hw g))) tm w := by
  have hAb2 : upd (gone A (· == k)) g (some rk) b = some ra := by simp only [upd, hbg, if_false, gone]; rw [if_neg (by simpa using Ne.symm (by simpa using hkb))]; exact hAb
  have hnk := nav_kill (· == k) hia hn
  rw [hkl] at hnk
  have hdim := setAt_dim (v := .hw g) hnk (by simp [X.size]) (by simp [X.agg]) (fun _ => by simp [X.arD])
  have hiak : inAr (c.kill (· == k)) p = false := by
    have key : ∀ {q : List Nat} {c : X}, inAr c q = false → inAr (c.kill (· == k)) q = false := by
      intro q
      induction q with
      | nil => intro c _; cases c <;> simp only [X.kill] <;> (try split) <;> simp [inAr]
      | cons f q ih =>
        intro c hc
        cases c with
        | ag xs =>
          simp only [X.kill, inAr, killL_map, List.getElem?_map] at hc ⊢
          cases hx : xs[f]? with
          | none => rfl
          | some y =>
            rw [hx] at hc
            simp only [Option.map_some]
            exact ih hc
        | ar d xs => simp [inAr] at hc
        | _ => simp only [X.kill] <;> (try split) <;> rfl
    exact key hia
  refine { h2' with rv := fun j x hj => ?_, lv := fun j rb hj => ?_ }
  · simp only [setR, upd] at hj
    by_cases e : j = b
    · subst e
      simp only [if_pos, Option.some.injEq] at hj
      subst hj
      have hrck : Rc w F (upd (gone A (· == k)) g (some rk)) (c.kill (· == k)) cs := rc_mono (fun _ h => h) (fun _ _ => rfl) (sub_upd hgA rk) (rc_kill hok.rc)
      obtain ⟨d1, d2, d3, e2, hl2, hr2, hset⟩ := navC hnk hrck
      have hlen2 := rc_len hr2
      simp only [X.size] at hlen2
      have hcd : c1 = d1 ∧ c2 ++ c3 = d2 ++ d3 := List.append_inj (e1.symm.trans e2) (by omega)
      have hcd2 : c2 = d2 := (List.append_inj hcd.2 (by omega)).1
      refine ⟨ra, cs, hAb2, ⟨?_, hok.cap, dimOk_congr (by rw [hdim.2, arD_kill]) (by rw [hdim.1, size_kill]) hok.dim, hok.own⟩⟩
      have hnew : Rc w F (upd (gone A (· == k)) g (some rk)) (.hw g) d2 := by
        rw [← hcd2]
        exact hv
      have := hset (.hw g) d2 rfl hnew (fun hi => by rw [hiak] at hi; cases hi)
      rw [← e2] at this
      exact this
    · simp only [e, if_false] at hj
      exact h2'.rv j x (by simpa [setR, upd] using hj)
  · by_cases e : j = b
    · subst e; exact ⟨_, by simp [setR, upd]; rfl⟩
    · obtain ⟨x, hx⟩ := h2'.lv j rb hj
      exact ⟨x, by simpa [setR, upd, e] using hx⟩
theorem adopt_ok (h : Inv w0 F0 Pb F A S tm w) {t : Nat} {p : List Nat} {g d : Nat} {S' : St} (ha : adopt S t p g d = some S') : ∃ A', Inv w0 F0 Pb F A' S' tm w := by
  unfold adopt at ha
  split at ha
  · split at ha
    · rename_i hx
      split at ha
      · rename_i hg0
        obtain ⟨hg, hl⟩ := freeN_none hg0
        cases ha
        obtain ⟨a, hv⟩ := sl_empty (by have := h.tv t; rw [hx] at this; exact this)
        exact ⟨_, (h.addVoid (d := d) hg hl).setX (by rw [hv]; exact hw_void (d := d) (by simp [upd]) a)⟩
      · cases ha
    · rename_i k hx
      split at ha
      · cases ha; exact ⟨A, h⟩
      · rename_i hne
        split at ha
        · rename_i d' c hg0 hh
          obtain ⟨hg, hl⟩ := freeN_none hg0
          cases ha
          have hv := h.tv t
          rw [hx] at hv
          obtain ⟨ra, a, c', hA, hval, g1, g2, g3⟩ := hw_of hv
          obtain ⟨ra', hA', h2⟩ := h.rename hh hg hl
          rw [hA] at hA'; cases hA'
          refine ⟨_, h2.setX (t := t) (x := .hw g) ?_⟩
          rw [hval]
          exact hw_ok (by simp [upd]) g1 g2 g3
        · cases ha
    · rename_i k hx
      split at ha
      · cases ha; exact ⟨A, h⟩
      · rename_i hne
        split at ha
        · rename_i c hg0 hh
          obtain ⟨hg, hl⟩ := freeN_none hg0
          cases ha
          have hv := h.tv t
          rw [hx] at hv
          obtain ⟨ra, hA, hcap, hval⟩ := pt_of hv
          obtain ⟨ra', hA', h2⟩ := h.rename hh hg hl
          rw [hA] at hA'; cases hA'
          refine ⟨_, h2.setX (t := t) (x := .pt g 0 []) ?_⟩
          rw [hval]
          exact pt_ok (by simp [upd]) hcap
        · cases ha
    · rename_i k lo len f hx
      split at ha
      · rename_i d' c hg0 hh
        obtain ⟨hg, hl⟩ := freeN_none hg0
        cases ha
        have hv := h.tv t
        rw [hx] at hv
        obtain ⟨ra, a, c', hA, hval, g1, g2, g3, g5, g4⟩ := hd_of hv
        have h2 := h.renameCut hh hA hg hl g1 g2 g3
        refine ⟨_, h2.setX (t := t) (x := .hw g) ?_⟩
        rw [hval]
        exact hw_ok (ra := ⟨ra.b, ra.o + lo * ra.d, c', ra.d, len⟩) (by simp [upd]) g1 (Nat.le_refl _) g4
      · cases ha
    · cases ha
  · split at ha
    · rename_i b hx
      split at ha
      · rename_i c hb
        split at ha
        · rename_i o hn
          split at ha
          · cases ha
          · rename_i hia
            split at ha
            · rename_i hg0
              obtain ⟨hg, hl⟩ := freeN_none hg0
              cases ha
              have hbg : b ≠ g := by intro e; subst e; rw [hb] at hg; cases hg
              have hA := h.none_of hg
              have h1 := h.addVoid (d := d) hg hl
              have hb1 : (setR S g (.ar d [])).r b = some c := by simp [setR, upd, hbg, hb]
              obtain ⟨ra, cs, hAb, hok⟩ := h.rv b c hb
              have hdim := setAt_dim (v := .hw g) hn (by simp [X.size]) (by simp [X.agg]) (fun _ => by simp [X.arD])
              refine ⟨_, h1.recontent hb1 (fun ra' cs' _ hok' => ?_) hdim.2 hdim.1⟩
              obtain ⟨c1, c2, c3, rfl, hl, hry, hset⟩ := navC hn hok'.rc
              have hlen := rc_len hry
              simp only [X.size] at hlen
              match c2, hlen with
              | [u], _ =>
                simp only [Rc, Rf] at hry
                obtain ⟨a, cc, he, q1, q2, q3⟩ := hry
                have := q2 trivial
                simp at this
                subst this
                simp at he
                subst he
                refine hset (.hw g) _ rfl ?_ (fun hi => absurd hi hia)
                simp only [Rc]
                exact ⟨⟨0, 0, 0, d, 0⟩, a, 0, by simp [upd], rfl, by simp, by simp, .inl rfl⟩
            · cases ha
        · rename_i k o hn
          split at ha
          · cases ha; exact ⟨A, h⟩
          · rename_i hne
            split at ha
            · cases ha
            · rename_i hia
              simp only [Bool.or_eq_true, not_or, beq_iff_eq, Bool.not_eq_true] at hia
              obtain ⟨hia, hkb⟩ := hia
              split at ha
              · rename_i d' cc hg0 hh
                obtain ⟨hg, hl⟩ := freeN_none hg0
                cases ha
                have hbg : b ≠ g := by intro e; subst e; rw [hb] at hg; cases hg
                obtain ⟨rk, hAk, h2⟩ := h.rename hh hg hl
                have hgA : gone A (· == k) g = none := by
                  have := h.none_of hg
                  simp [gone, this]
                obtain ⟨ra0, cs0, hAb0, hok0⟩ := h.rv b c hb
                obtain ⟨c1, c2, c3, e1, hl1, hr1, _⟩ := navC hn hok0.rc
                simp only [Rc] at hr1
                obtain ⟨rb, a, c', hA', he, g1, g2, g3⟩ := hr1
                rw [hAk] at hA'; cases hA'
                exact ⟨_, h.graftAt hn hAb0 hok0 e1 hl1 (by rw [he]; rfl) hia (by simpa using hkb) (by simp [X.kill]) hbg h2 hgA (by simp only [Rc]; exact ⟨rk, a, c', by simp [upd], he, g1, g2, g3⟩)⟩
              · cases ha
        · rename_i k lo len f o hn
          split at ha
          · cases ha
          · rename_i hia
            simp only [Bool.or_eq_true, not_or, beq_iff_eq, Bool.not_eq_true] at hia
            obtain ⟨hia, hkb⟩ := hia
            have hkb' : (k == b) = false := by simpa using hkb
            split at ha
            · rename_i d' cc hg0 hh
              obtain ⟨hg, hl⟩ := freeN_none hg0
              cases ha
              have hbg : b ≠ g := by
                intro e; subst e
                simp [EV.dropIf, hb, Ne.symm hkb] at hg
              obtain ⟨ra0, cs0, hAb0, hok0⟩ := h.rv b c hb
              obtain ⟨c1, c2, c3, e1, hl1, hr1, _⟩ := navC hn hok0.rc
              simp only [Rc] at hr1
              obtain ⟨rk, a, c', hAk, he, g1, g2, g3, g5, g4⟩ := hr1
              have h2 := h.renameCut hh hAk hg hl g1 g2 g3
              have hgA : gone A (· == k) g = none := (h.dropIf (· == k)).none_of hg
              exact ⟨_, h.graftAt hn hAb0 hok0 e1 hl1 (by rw [he]; rfl) hia hkb' (by simp [X.kill]) hbg h2 hgA (by simp only [Rc]; exact ⟨⟨rk.b, rk.o + lo * rk.d, c', rk.d, len⟩, a, c', by simp [upd], he, g1, Nat.le_refl _, g4⟩)⟩
            · cases ha
        · cases ha
      · cases ha
    · cases ha
theorem adoptL_ok : ∀ {l : List (Nat × List Nat × Nat × Nat)} {S S' : St} {A : Nat → Option RA}, Inv w0 F0 Pb F A S tm w → adoptL S l = some S' → ∃ A', Inv w0 F0 Pb F A' S' tm w
  | [], S, S', A, h, ha => by
    simp only [adoptL, Option.some.injEq] at ha
    subst ha
    exact ⟨A, h⟩
  | (t, p, g, d) :: l, S, S', A, h, ha => by
    simp only [adoptL] at ha
    split at ha
    · rename_i S1 h1
      obtain ⟨A1, hI1⟩ := adopt_ok h h1
      exact adoptL_ok hI1 ha
    · cases ha
theorem keepT_eq (t : Nat → X) : ∀ (l : List Nat) (v : Nat), keepT t l v = if v ∈ l then t v else .bot
  | [], v => by simp [keepT]
  | u :: l, v => by
    simp only [keepT, upd]
    by_cases e : v = u
    · subst e; simp
    · simp [e, keepT_eq t l v]
theorem keepR_eq (r : Nat → Option X) : ∀ (l : List Nat) (v : Nat), keepR r l v = if v ∈ l then r v else none
  | [], v => by simp [keepR]
  | u :: l, v => by
    simp only [keepR, upd]
    by_cases e : v = u
    · subst e; simp
    · simp [e, keepR_eq r l v]
theorem Inv.keepT (h : Inv w0 F0 Pb F A S tm w) (l : List Nat) : Inv w0 F0 Pb F A { S with t := keepT S.t l } tm w := by
  refine { h with tv := fun v => ?_ }
  simp only [keepT_eq]
  split
  · exact h.tv v
  · trivial
theorem nrmLa_ok (la : La) : NrmOk (nrmLa la) := by
  intro S S' hn w0 F0 Pb N a w ⟨h1, h2, F, A, h⟩
  unfold nrmLa at hn
  split at hn
  · rename_i S1 hS1
    obtain ⟨F1, A1, hI1, _⟩ := h.freezeL hS1
    split at hn
    · rename_i S2 hS2
      obtain ⟨A2, hI2⟩ := adoptL_ok hI1 hS2
      simp only [Option.some.injEq] at hn
      subst hn
      have hI3 := (hI2.keepT la.keep).dropIf (fun g => !la.roots.contains g)
      have hI4 := hI3.keepT la.keep
      refine ⟨h1, h2, F1, (gone A2 fun g => !la.roots.contains g), ?_⟩
      have er : keepR (dropIf { S2 with t := keepT S2.t la.keep } (fun g => !la.roots.contains g)).r la.roots = (dropIf { S2 with t := keepT S2.t la.keep } (fun g => !la.roots.contains g)).r := by
        funext g
        rw [keepR_eq]
        split
        · rfl
        · rename_i hg
          simp [dropIf, hg]
      rw [er]
      exact hI4
    · cases hn
  · cases hn
theorem nrm_id : NrmOk (fun S => some S) := fun S S' h _ _ _ _ _ _ hI => by cases h; exact hI
end
end Go.EV
