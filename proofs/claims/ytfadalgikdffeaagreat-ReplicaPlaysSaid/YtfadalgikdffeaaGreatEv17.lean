/- What a function hands back; functions. -/
import Derived.Test.YtfadalgikdffeaaGreatEv16
set_option linter.unusedVariables false
set_option linter.unusedSimpArgs false
namespace Go.EV
open Go.RowKit
section
variable {P : Program} {T : TT} {w0 : World} {F0 F : Nat → Prop} {Pb : PB} {A : Nat → Option RA} {S : St} {tm : Nat → Value} {w : World}
theorem leaveR_ok (h : Inv w0 F0 Pb F A S tm w) {n : Nat} : ∀ {xs : List X} {q : List X × (Nat → Option X)} {r : Nat → Option X} {vs : List Value}, (∀ g z, r g = some z → S.r g = some z) → reiL (rei n) r xs = some q → All2 (fun x v => Rv w F A x v) xs vs →
    ∃ bs, RoVL w F q.1 vs bs ∧ Taken A r q.2 bs ∧ ∀ y ∈ q.1, y.isTup = false
  | [], q, r, vs, hr, hq, hc => by
    simp only [reiL, Option.some.injEq] at hq
    subst hq
    cases hc
    exact ⟨[], by simp [RoVL], Taken.refl _, by simp⟩
  | x :: xs, q, r, vs, hr, hq, hc => by
    simp only [reiL] at hq
    split at hq
    · rename_i q1 hx
      obtain ⟨q2, hxs, rfl⟩ := Option.map_eq_some_iff.1 hq
      cases hc with
      | cons hv hvs =>
        obtain ⟨a1, a2, a3, a4⟩ := reiX_agg (y := q1.1) (r' := q1.2) hx
        obtain ⟨c1, hc1, rfl⟩ := Rv.one hv a2 a3
        obtain ⟨b1, o1, t1, s1, _⟩ := reiX_ok h (rei_ok h n) hr (y := q1.1) (r' := q1.2) hx hc1
        obtain ⟨b2, o2, t2, s2⟩ := leaveR_ok h (fun g z hz => hr g z (t1.2.2 g z hz)) hxs hvs
        refine ⟨b1 ++ b2, by simp only [RoVL]; exact ⟨_, _, c1, b1, b2, rfl, rfl, o1, by simp [val, a1], o2⟩, t1.trans h t2, fun y hy => ?_⟩
        rcases List.mem_cons.1 hy with rfl | hy
        · exact a4
        · exact s2 y hy
    · cases hq
theorem oneX_ok {ys : List X} {vs : List Value} {bs : List Nat} (h : RoVL w F ys vs bs) (ht : ∀ y ∈ ys, y.isTup = false) : RoV w F (oneX ys) (if h : vs.toArray.size = 1 then vs.toArray[0] else .tuple vs.toArray) bs := by
  match ys, vs, h, ht with
  | [], vs, h, _ =>
    simp only [RoVL] at h
    obtain ⟨rfl, rfl⟩ := h
    exact ⟨[], rfl, by simp [RoVL]⟩
  | [y], vs, h, ht =>
    simp only [RoVL] at h
    obtain ⟨v, vs', cs, b1, b2, rfl, rfl, h1, h2, rfl, rfl⟩ := h
    have hy := ht y (by simp)
    simp only [oneX]
    unfold RoV
    split
    · simp [X.isTup] at hy
    · exact ⟨cs, by simpa using h1, by simpa using h2⟩
  | y1 :: y2 :: ys, vs, h, ht =>
    have h' := h
    simp only [RoVL] at h
    obtain ⟨v, vs', cs, b1, b2, rfl, rfl, h1, h2, v2, vs2, cs2, b3, b4, rfl, rfl, _⟩ := h
    simp only [oneX]
    rw [dif_neg (by simp)]
    exact ⟨_, rfl, h'⟩
end
end Go.EV
