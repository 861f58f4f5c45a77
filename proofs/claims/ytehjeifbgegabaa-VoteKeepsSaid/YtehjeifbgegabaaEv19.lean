/- What is done at a loop's head changes nothing in the machine. -/
import Derived.Test.YtehjeifbgegabaaEv18
set_option linter.unusedVariables false
set_option linter.unusedSimpArgs false
namespace Go.EV
open Go.RowKit
section
variable {w0 : World} {F0 Pb F : Nat → Prop} {A : Nat → Option RA} {S : St} {w : World} {N : Nat} {tm : Nat → Value}
theorem Inv.none_of (h : Inv w0 F0 Pb F A S tm w) {g : Nat} (hg : S.r g = none) : A g = none := by
  cases hA : A g with
  | none => rfl
  | some rb => obtain ⟨y, hy⟩ := h.lv g rb hA; rw [hg] at hy; cases hy
theorem sub_upd {g : Nat} (hA : A g = none) (ra : RA) : ASub A (upd A g (some ra)) := fun k rb hk => by
  unfold upd
  by_cases e : k = g
  · subst e; rw [hA] at hk; cases hk
  · simpa [e] using hk
theorem Inv.addVoid (h : Inv w0 F0 Pb F A S tm w) {g d : Nat} (hg : S.r g = none) : Inv w0 F0 Pb F (upd A g (some ⟨0, 0, 0, d, 0⟩)) (setR S g (.ar d [])) tm w :=
  h.add (g := g) hg (ra := ⟨0, 0, 0, d, 0⟩) (x := .ar d []) (c := []) ⟨by simp [Rc, Rf, RfE], by simp, ⟨rfl, rfl⟩, fun h => by simp at h⟩ (fun h => by simp at h)
theorem Inv.setX (h : Inv w0 F0 Pb F A S tm w) {t : Nat} {x : X} (hx : Rv w F A x (tm t)) : Inv w0 F0 Pb F A (setT S t x) tm w := by
  refine { h with tv := fun v => ?_ }
  simp only [setT, upd]
  by_cases e : v = t
  · subst e; simpa using hx
  · simpa [e] using h.tv v
theorem sl_empty {v : Value} (h : Rv w F A (.sl true []) v) : ∃ a, v = .slice a 0 0 := by
  obtain ⟨a, c, rfl, h1, h2, _⟩ := sl_of h
  have := h2 rfl
  simp at this
  subst this
  exact ⟨a, rfl⟩
theorem hw_void {g d : Nat} {A : Nat → Option RA} (hA : A g = some ⟨0, 0, 0, d, 0⟩) (a : Option Addr) : Rv w F A (.hw g) (.slice a 0 0) := by
  have := hw_ok (w := w) (F := F) (A := A) (g := g) (ra := ⟨0, 0, 0, d, 0⟩) (a := a) (c := 0) hA (by simp) (by simp) (.inl rfl)
  exact this
theorem Inv.recontent (h : Inv w0 F0 Pb F A S tm w) {g : Nat} {c c' : X} (hg : S.r g = some c) (hc : ∀ ra cs, A g = some ra → RootOk w F A ra c cs → Rc w F A c' cs) (har : c'.arD = c.arD) (hsz : c'.size = c.size) : Inv w0 F0 Pb F A (setR S g c') tm w := by
  refine { h with rv := fun k x hx => ?_, lv := fun k rb hk => ?_ }
  · simp only [setR, upd] at hx
    by_cases e : k = g
    · subst e
      simp at hx; subst hx
      obtain ⟨ra, cs, h1, h2⟩ := h.rv k c hg
      exact ⟨ra, cs, h1, ⟨hc ra cs h1 h2, h2.cap, dimOk_congr har hsz h2.dim, h2.own⟩⟩
    · simp only [e, if_false] at hx
      exact h.rv k x hx
  · by_cases e : k = g
    · subst e; exact ⟨c', by simp [setR, upd]⟩
    · obtain ⟨x, hx⟩ := h.lv k rb hk
      exact ⟨x, by simpa [setR, upd, e] using hx⟩
theorem adopt_ok (h : Inv w0 F0 Pb F A S tm w) {t : Nat} {p : List Nat} {g d : Nat} {S' : St} (ha : adopt S t p g d = some S') : ∃ A', Inv w0 F0 Pb F A' S' tm w := by
  unfold adopt at ha
  split at ha
  · split at ha
    · rename_i hx
      split at ha
      · rename_i hg
        cases ha
        obtain ⟨a, hv⟩ := sl_empty (by have := h.tv t; rw [hx] at this; exact this)
        exact ⟨_, (h.addVoid (d := d) hg).setX (by rw [hv]; exact hw_void (d := d) (by simp [upd]) a)⟩
      · cases ha
    · rename_i k hx
      split at ha
      · cases ha; exact ⟨A, h⟩
      · rename_i hne
        split at ha
        · rename_i d' c hg hh
          cases ha
          have hv := h.tv t
          rw [hx] at hv
          obtain ⟨ra, a, c', hA, hval, g1, g2, g3⟩ := hw_of hv
          obtain ⟨cs, hrf, hd, hn, hcap, hown⟩ := h.places.ar hh hA
          have h1 := h.dropIf (· == k)
          have hgn : (dropIf S (· == k)).r g = none := by simp only [dropIf]; split <;> simp [hg]
          have h2 := h1.add (g := g) hgn (ra := ra) (x := .ar d' c) (c := cs) ⟨by simpa only [Rc, Rf] using hrf, hcap, ⟨hd, hn⟩, hown⟩ (fun hc => by
            obtain ⟨n1, n2, n3⟩ := h.nw k ra hA hc
            refine ⟨n1, n2, n3, fun j rb hj hcj => ?_⟩
            obtain ⟨j1, j2⟩ := gone_some hj
            exact h.sep k j ra rb hA j2 (by simpa using Ne.symm (by simpa using j1)) hc hcj)
          refine ⟨_, h2.setX (t := t) (x := .hw g) ?_⟩
          rw [hval]
          exact hw_ok (by simp [upd]) g1 g2 g3
        · cases ha
    · cases ha
  · split at ha
    · rename_i b hx
      split at ha
      · rename_i c hb
        split at ha
        · rename_i o hn
          split at ha
          · cases ha
          · rename_i hia
            split at ha
            · rename_i hg
              cases ha
              have hbg : b ≠ g := by intro e; subst e; rw [hb] at hg; cases hg
              have hA := h.none_of hg
              have h1 := h.addVoid (d := d) hg
              have hb1 : (setR S g (.ar d [])).r b = some c := by simp [setR, upd, hbg, hb]
              obtain ⟨ra, cs, hAb, hok⟩ := h.rv b c hb
              have hdim := setAt_dim (v := .hw g) hn (by simp [X.size]) (by simp [X.agg]) (fun _ => by simp [X.arD])
              refine ⟨_, h1.recontent hb1 (fun ra' cs' _ hok' => ?_) hdim.2 hdim.1⟩
              obtain ⟨c1, c2, c3, rfl, hl, hry, hset⟩ := navC hn hok'.rc
              have hlen := rc_len hry
              simp only [X.size] at hlen
              match c2, hlen with
              | [u], _ =>
                simp only [Rc, Rf] at hry
                obtain ⟨a, cc, he, q1, q2, q3⟩ := hry
                have := q2 trivial
                simp at this
                subst this
                simp at he
                subst he
                refine hset (.hw g) _ rfl ?_ (fun hi => absurd hi hia)
                simp only [Rc]
                exact ⟨⟨0, 0, 0, d, 0⟩, a, 0, by simp [upd], rfl, by simp, by simp, .inl rfl⟩
            · cases ha
        · split at ha
          · cases ha; exact ⟨A, h⟩
          · cases ha
        · cases ha
      · cases ha
    · cases ha
theorem adoptL_ok : ∀ {l : List (Nat × List Nat × Nat × Nat)} {S S' : St} {A : Nat → Option RA}, Inv w0 F0 Pb F A S tm w → adoptL S l = some S' → ∃ A', Inv w0 F0 Pb F A' S' tm w
  | [], S, S', A, h, ha => by
    simp only [adoptL, Option.some.injEq] at ha
    subst ha
    exact ⟨A, h⟩
  | (t, p, g, d) :: l, S, S', A, h, ha => by
    simp only [adoptL] at ha
    split at ha
    · rename_i S1 h1
      obtain ⟨A1, hI1⟩ := adopt_ok h h1
      exact adoptL_ok hI1 ha
    · cases ha
theorem keepT_eq (t : Nat → X) : ∀ (l : List Nat) (v : Nat), keepT t l v = if v ∈ l then t v else .bot
  | [], v => by simp [keepT]
  | u :: l, v => by
    simp only [keepT, upd]
    by_cases e : v = u
    · subst e; simp
    · simp [e, keepT_eq t l v]
theorem keepR_eq (r : Nat → Option X) : ∀ (l : List Nat) (v : Nat), keepR r l v = if v ∈ l then r v else none
  | [], v => by simp [keepR]
  | u :: l, v => by
    simp only [keepR, upd]
    by_cases e : v = u
    · subst e; simp
    · simp [e, keepR_eq r l v]
theorem Inv.keepT (h : Inv w0 F0 Pb F A S tm w) (l : List Nat) : Inv w0 F0 Pb F A { S with t := keepT S.t l } tm w := by
  refine { h with tv := fun v => ?_ }
  simp only [keepT_eq]
  split
  · exact h.tv v
  · trivial
theorem nrmLa_ok (la : La) : NrmOk (nrmLa la) := by
  intro S S' hn w0 F0 Pb N a w ⟨h1, h2, F, A, h⟩
  unfold nrmLa at hn
  split at hn
  · rename_i S1 hS1
    obtain ⟨F1, A1, hI1, _⟩ := h.freezeL hS1
    split at hn
    · rename_i S2 hS2
      obtain ⟨A2, hI2⟩ := adoptL_ok hI1 hS2
      simp only [Option.some.injEq] at hn
      subst hn
      have hI3 := (hI2.keepT la.keep).dropIf (fun g => !la.roots.contains g)
      have hI4 := hI3.keepT la.keep
      refine ⟨h1, h2, F1, (gone A2 fun g => !la.roots.contains g), ?_⟩
      have er : keepR (dropIf { S2 with t := keepT S2.t la.keep } (fun g => !la.roots.contains g)).r la.roots = (dropIf { S2 with t := keepT S2.t la.keep } (fun g => !la.roots.contains g)).r := by
        funext g
        rw [keepR_eq]
        split
        · rfl
        · rename_i hg
          simp [dropIf, hg]
      rw [er]
      exact hI4
    · cases hn
  · cases hn
theorem nrm_id : NrmOk (fun S => some S) := fun S S' h _ _ _ _ _ _ hI => by cases h; exact hI
end
end Go.EV
