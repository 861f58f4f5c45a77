/- What a function hands back; functions. -/
import Derived.Test.YtehjeifbgegabaaEv16
set_option linter.unusedVariables false
set_option linter.unusedSimpArgs false
namespace Go.EV
open Go.RowKit
section
variable {P : Program} {T : TT} {w0 : World} {F0 Pb F : Nat → Prop} {A : Nat → Option RA} {S : St} {tm : Nat → Value} {w : World}
/-- The blocks that go over are those of the places that are no longer named. -/
def Taken (A : Nat → Option RA) (r r' : Nat → Option X) (bs : List Nat) : Prop :=
  bs.Nodup ∧ (∀ b ∈ bs, ∃ g ra, A g = some ra ∧ 0 < ra.cap ∧ ra.b = b ∧ (r g).isSome = true ∧ r' g = none) ∧ ∀ g z, r' g = some z → r g = some z
theorem Taken.refl (r : Nat → Option X) : Taken A r r [] := ⟨.nil, by simp, fun _ _ h => h⟩
theorem Taken.trans (h : Inv w0 F0 Pb F A S tm w) {r r1 r2 : Nat → Option X} {b1 b2 : List Nat} (h1 : Taken A r r1 b1) (h2 : Taken A r1 r2 b2) : Taken A r r2 (b1 ++ b2) := by
  obtain ⟨n1, t1, s1⟩ := h1
  obtain ⟨n2, t2, s2⟩ := h2
  refine ⟨List.nodup_append.2 ⟨n1, n2, fun x hx y hy e => ?_⟩, fun b hb => ?_, fun g z hz => s1 g z (s2 g z hz)⟩
  · subst e
    obtain ⟨g1, ra1, A1, c1, e1, i1, o1⟩ := t1 x hx
    obtain ⟨g2, ra2, A2, c2, e2, i2, o2⟩ := t2 x hy
    by_cases hg : g1 = g2
    · subst hg; rw [o1] at i2; simp at i2
    · exact h.sep g1 g2 ra1 ra2 A1 A2 hg c1 c2 (e1.trans e2.symm)
  · rcases List.mem_append.1 hb with hb | hb
    · obtain ⟨g, ra, h1, h2, h3, h4, h5⟩ := t1 b hb
      refine ⟨g, ra, h1, h2, h3, h4, ?_⟩
      cases hr : r2 g with
      | none => rfl
      | some z => rw [s2 g z hr] at h5; cases h5
    · obtain ⟨g, ra, h1, h2, h3, h4, h5⟩ := t2 b hb
      refine ⟨g, ra, h1, h2, h3, ?_, h5⟩
      obtain ⟨z, hz⟩ := Option.isSome_iff_exists.1 h4
      rw [s1 g z hz]; rfl
theorem Taken.one {r : Nat → Option X} {g : Nat} {x : X} {ra : RA} (hA : A g = some ra) (hr : r g = some x) (hc : 0 < ra.cap) : Taken A r (upd r g none) [ra.b] := by
  refine ⟨by simp, fun b hb => ?_, fun k z hz => ?_⟩
  · simp at hb; subst hb
    exact ⟨g, ra, hA, hc, rfl, by simp [hr], by simp [upd]⟩
  · unfold upd at hz
    split at hz
    · cases hz
    · exact hz
theorem Taken.zero {r : Nat → Option X} {g : Nat} : Taken A r (upd r g none) [] :=
  ⟨.nil, by simp, fun k z hz => by unfold upd at hz; split at hz; cases hz; exact hz⟩
/-- What holds at each depth. -/
def DeepOk (w : World) (F : Nat → Prop) (A : Nat → Option RA) (r0 : Nat → Option X) (deep : (Nat → Option X) → X → Option (X × (Nat → Option X))) : Prop :=
  ∀ (r : Nat → Option X) (x y : X) (r' : Nat → Option X) (cs : List Value), (∀ g z, r g = some z → r0 g = some z) → deep r x = some (y, r') → Rc w F A x cs → ∃ bs, Ro w F y cs bs ∧ Taken A r r' bs ∧ y.size = x.size ∧ y.arD = x.arD
mutual
theorem reiX_ok (h : Inv w0 F0 Pb F A S tm w) {deep : (Nat → Option X) → X → Option (X × (Nat → Option X))} (hd : DeepOk w F A S.r deep) : ∀ {x y : X} {r r' : Nat → Option X} {cs : List Value}, (∀ g z, r g = some z → S.r g = some z) → reiX deep r x = some (y, r') → Rc w F A x cs →
    ∃ bs, Ro w F y cs bs ∧ Taken A r r' bs ∧ y.size = x.size ∧ y.arD = x.arD
  | .ag xs, y, r, r', cs, hr, hq, hc => by
    simp only [reiX] at hq
    obtain ⟨q, hq1, he⟩ := Option.map_eq_some_iff.1 hq
    simp only [Prod.mk.injEq] at he
    obtain ⟨rfl, rfl⟩ := he
    simp only [Rc] at hc
    obtain ⟨bs, h1, h2, h3⟩ := reiL_ok h hd hr hq1 hc
    exact ⟨bs, by simpa only [Ro] using h1, h2, by simpa only [X.size] using h3, rfl⟩
  | .hw g, y, r, r', cs, hr, hq, hc => by
    simp only [reiX] at hq
    split at hq
    · rename_i d c hg
      simp only [Option.some.injEq, Prod.mk.injEq] at hq
      obtain ⟨rfl, rfl⟩ := hq
      simp only [Rc] at hc
      obtain ⟨ra, a, c', hA, rfl, g1, g2, g3⟩ := hc
      obtain ⟨pc, hpc, hdd, hn, hcap, hown⟩ := h.places.ar (hr g _ hg) hA
      by_cases hc0 : c' = 0
      · refine ⟨[], ?_, Taken.zero, by simp [X.size], rfl⟩
        simp only [Ro]
        exact ⟨a, c', by rw [hn], by omega, .inl (by simp [hc0])⟩
      · rcases g3 with g3 | rfl
        · exact absurd g3 hc0
        · refine ⟨[ra.b], ?_, Taken.one hA hg (by omega), by simp [X.size], rfl⟩
          simp only [Ro]
          refine ⟨_, c', by rw [hn], by omega, .inr ⟨ra.b, ra.o, pc, rfl, rfl, hpc, ?_⟩⟩
          obtain ⟨all, e', fz, o1, o2, o3, o4⟩ := hown (by omega)
          refine ⟨all, e', fz, o1, o2, ?_, o4⟩
          have : c' * d ≤ ra.cap * d := Nat.mul_le_mul_right _ g2
          rw [hdd] at o3; omega
    · cases hq
  | .hd g lo len f, y, r, r', cs, hr, hq, hc => by
    simp only [reiX] at hq
    split at hq
    · rename_i d c hg
      simp only [Option.some.injEq, Prod.mk.injEq] at hq
      obtain ⟨rfl, rfl⟩ := hq
      simp only [Rc] at hc
      obtain ⟨ra, a, c', hA, rfl, g1, g2, g4, g5, g3⟩ := hc
      obtain ⟨pc, hpc, hdd, hn, hcap, hown⟩ := h.places.ar (hr g _ hg) hA
      have hl : (mid lo len c).length = len := by simp [mid]; omega
      by_cases hc0 : c' = 0
      · refine ⟨[], ?_, Taken.zero, by simp [X.size], rfl⟩
        simp only [Ro]
        exact ⟨a, c', by rw [hl], by omega, .inl (by simp [hc0])⟩
      · rcases g3 with g3 | rfl
        · exact absurd g3 hc0
        · refine ⟨[ra.b], ?_, Taken.one hA hg (by omega), by simp [X.size], rfl⟩
          simp only [Ro]
          refine ⟨_, c', by rw [hl], by omega, .inr ⟨ra.b, ra.o + lo * ra.d, _, rfl, rfl, rfE_mid lo len hpc, ?_⟩⟩
          obtain ⟨all, e', fz, o1, o2, o3, o4⟩ := hown (by omega)
          refine ⟨all, e', fz, o1, fun j u hu => ?_, ?_, o4⟩
          · rw [List.getElem?_take] at hu
            split at hu
            · rw [List.getElem?_drop] at hu
              have := o2 _ u hu
              rw [hdd, show ra.o + lo * d + j = ra.o + (lo * d + j) by omega]
              exact this
            · cases hu
          · have : (lo + c') * d ≤ ra.cap * d := Nat.mul_le_mul_right _ g2
            rw [Nat.add_mul] at this
            rw [hdd] at o3 ⊢; omega
    · cases hq
  | .pt g off p, y, r, r', cs, hr, hq, hc => by
    simp only [reiX] at hq
    split at hq
    · rename_i hz
      obtain ⟨rfl, rfl⟩ := hz
      split at hq
      · rename_i z hg
        split at hq
        · rename_i hh
          obtain ⟨har, hsz⟩ := hh
          obtain ⟨q, hq1, he⟩ := Option.map_eq_some_iff.1 hq
          simp only [Prod.mk.injEq] at he
          obtain ⟨rfl, rfl⟩ := he
          simp only [Rc] at hc
          obtain ⟨ra, hA, hcap, rfl⟩ := hc
          obtain ⟨ra', c, hA', hok⟩ := h.rv g z (hr g z hg)
          rw [hA] at hA'; cases hA'
          obtain ⟨bs, h1, h2, h3, h4⟩ := hd (upd r g none) z q.1 q.2 c (fun k u hu => hr k u (by unfold upd at hu; split at hu; cases hu; exact hu)) hq1 hok.rc
          refine ⟨ra.b :: bs, ?_, (Taken.one hA hg hcap).trans h h2, by simp [X.size], rfl⟩
          simp only [Ro]
          refine ⟨ra.b, ra.o, c, bs, by simp, rfl, h1, by rw [h4]; exact har, by rw [h3]; exact hsz, ?_⟩
          rw [h3]
          have hdim := hok.dim
          have : ra.cap * ra.d = z.size := by
            have : ra.cap = 1 ∧ ra.d = z.size := by cases z <;> simp_all [dimOk, X.arD]
            rw [this.1, this.2]; simp
          rw [← this]; exact hok.own hcap
        · cases hq
      · cases hq
    · cases hq
  | .b v, y, r, r', cs, hr, hq, hc | .i k n, y, r, r', cs, hr, hq, hc | .s l, y, r, r', cs, hr, hq, hc | .ar d xs, y, r, r', cs, hr, hq, hc | .sl f xs, y, r, r', cs, hr, hq, hc | .np, y, r, r', cs, hr, hq, hc | .pf x, y, r, r', cs, hr, hq, hc | .nm, y, r, r', cs, hr, hq, hc | .nf, y, r, r', cs, hr, hq, hc => by
    simp only [reiX, Option.some.injEq, Prod.mk.injEq] at hq
    obtain ⟨rfl, rfl⟩ := hq
    simp only [Rc] at hc
    exact ⟨[], by simp only [Ro]; exact ⟨trivial, hc⟩, Taken.refl _, rfl, rfl⟩
  | .bot, y, r, r', cs, hr, hq, hc | .tup _, y, r, r', cs, hr, hq, hc | .fn _ _, y, r, r', cs, hr, hq, hc | .ow _ _, y, r, r', cs, hr, hq, hc | .ob _, y, r, r', cs, hr, hq, hc => by simp [reiX] at hq
theorem reiL_ok (h : Inv w0 F0 Pb F A S tm w) {deep : (Nat → Option X) → X → Option (X × (Nat → Option X))} (hd : DeepOk w F A S.r deep) : ∀ {xs : List X} {q : List X × (Nat → Option X)} {r : Nat → Option X} {cs : List Value}, (∀ g z, r g = some z → S.r g = some z) → reiL deep r xs = some q → RcL w F A xs cs →
    ∃ bs, RoL w F q.1 cs bs ∧ Taken A r q.2 bs ∧ sizeL q.1 = sizeL xs
  | [], q, r, cs, hr, hq, hc => by
    simp only [reiL, Option.some.injEq] at hq
    subst hq
    simp only [RcL] at hc
    exact ⟨[], by simp [RoL, hc], Taken.refl _, rfl⟩
  | x :: xs, q, r, cs, hr, hq, hc => by
    simp only [reiL] at hq
    split at hq
    · rename_i q1 hx
      obtain ⟨q2, hxs, rfl⟩ := Option.map_eq_some_iff.1 hq
      simp only [RcL] at hc
      obtain ⟨c1, c2, rfl, r1, r2⟩ := hc
      obtain ⟨b1, o1, t1, s1, _⟩ := reiX_ok h hd hr (y := q1.1) (r' := q1.2) hx r1
      obtain ⟨b2, o2, t2, s2⟩ := reiL_ok h hd (fun g z hz => hr g z (t1.2.2 g z hz)) hxs r2
      exact ⟨b1 ++ b2, by simp only [RoL]; exact ⟨c1, c2, b1, b2, rfl, rfl, o1, o2⟩, t1.trans h t2, by simp [sizeL, s1, s2]⟩
    · cases hq
end
theorem rei_ok (h : Inv w0 F0 Pb F A S tm w) : ∀ n, DeepOk w F A S.r (rei n)
  | 0 => fun r x y r' cs _ hq _ => by simp [rei] at hq
  | n + 1 => fun r x y r' cs hr hq hc => reiX_ok h (rei_ok h n) hr hq hc
theorem reiX_agg {deep : (Nat → Option X) → X → Option (X × (Nat → Option X))} {r r' : Nat → Option X} {x y : X} (h : reiX deep r x = some (y, r')) : y.agg = x.agg ∧ x.isBot = false ∧ x.isTup = false ∧ y.isTup = false := by
  cases x <;> simp only [reiX] at h <;> (try (cases h; done)) <;> (repeat' (split at h)) <;> (try (cases h; done)) <;> (try (obtain ⟨q, _, he⟩ := Option.map_eq_some_iff.1 h; simp only [Prod.mk.injEq] at he; obtain ⟨rfl, _⟩ := he; simp [X.agg, X.isBot, X.isTup]; done)) <;> (simp only [Option.some.injEq, Prod.mk.injEq] at h; obtain ⟨rfl, _⟩ := h; simp [X.agg, X.isBot, X.isTup])
theorem leaveR_ok (h : Inv w0 F0 Pb F A S tm w) {n : Nat} : ∀ {xs : List X} {q : List X × (Nat → Option X)} {r : Nat → Option X} {vs : List Value}, (∀ g z, r g = some z → S.r g = some z) → reiL (rei n) r xs = some q → All2 (fun x v => Rv w F A x v) xs vs →
    ∃ bs, RoVL w F q.1 vs bs ∧ Taken A r q.2 bs ∧ ∀ y ∈ q.1, y.isTup = false
  | [], q, r, vs, hr, hq, hc => by
    simp only [reiL, Option.some.injEq] at hq
    subst hq
    cases hc
    exact ⟨[], by simp [RoVL], Taken.refl _, by simp⟩
  | x :: xs, q, r, vs, hr, hq, hc => by
    simp only [reiL] at hq
    split at hq
    · rename_i q1 hx
      obtain ⟨q2, hxs, rfl⟩ := Option.map_eq_some_iff.1 hq
      cases hc with
      | cons hv hvs =>
        obtain ⟨a1, a2, a3, a4⟩ := reiX_agg (y := q1.1) (r' := q1.2) hx
        obtain ⟨c1, hc1, rfl⟩ := Rv.one hv a2 a3
        obtain ⟨b1, o1, t1, s1, _⟩ := reiX_ok h (rei_ok h n) hr (y := q1.1) (r' := q1.2) hx hc1
        obtain ⟨b2, o2, t2, s2⟩ := leaveR_ok h (fun g z hz => hr g z (t1.2.2 g z hz)) hxs hvs
        refine ⟨b1 ++ b2, by simp only [RoVL]; exact ⟨_, _, c1, b1, b2, rfl, rfl, o1, by simp [val, a1], o2⟩, t1.trans h t2, fun y hy => ?_⟩
        rcases List.mem_cons.1 hy with rfl | hy
        · exact a4
        · exact s2 y hy
    · cases hq
mutual
theorem rf_ro : ∀ {x : X} {cs : List Value}, Rf w F x cs → Ro w F x cs []
  | .ag xs, cs, h => by simp only [Rf] at h; simp only [Ro]; exact rfL_ro h
  | .b v, cs, h | .i k n, cs, h | .s l, cs, h | .ar d xs, cs, h | .sl f xs, cs, h | .np, cs, h | .pf x, cs, h | .nm, cs, h | .nf, cs, h => by simp only [Ro]; exact ⟨trivial, h⟩
  | .bot, cs, h | .tup _, cs, h | .hw _, cs, h | .hd _ _ _ _, cs, h | .pt _ _ _, cs, h | .fn _ _, cs, h | .ow _ _, cs, h | .ob _, cs, h => by simp [Rf] at h
theorem rfL_ro : ∀ {xs : List X} {cs : List Value}, RfL w F xs cs → RoL w F xs cs []
  | [], cs, h => by simpa [RfL, RoL] using h
  | x :: xs, cs, h => by
    simp only [RfL] at h
    obtain ⟨c1, c2, rfl, h1, h2⟩ := h
    simp only [RoL]
    exact ⟨c1, c2, [], [], rfl, rfl, rf_ro h1, rfL_ro h2⟩
end
theorem leaveF_ok : ∀ {ys : List X} {vs : List Value}, All2 (fun y v => ∃ cs, Rf w F y cs ∧ v = val y cs) ys vs → RoVL w F ys vs [] ∧ ∀ y ∈ ys, y.isTup = false
  | _, _, .nil => ⟨by simp [RoVL], by simp⟩
  | y :: ys, v :: vs, .cons hy hys => by
    obtain ⟨cs, h1, h2⟩ := hy
    obtain ⟨h3, h4⟩ := leaveF_ok hys
    refine ⟨by simp only [RoVL]; exact ⟨v, vs, cs, [], [], rfl, rfl, rf_ro h1, h2, h3⟩, fun z hz => ?_⟩
    rcases List.mem_cons.1 hz with rfl | hz
    · cases z <;> simp_all [Rf, X.isTup]
    · exact h4 z hz
theorem oneX_ok {ys : List X} {vs : List Value} {bs : List Nat} (h : RoVL w F ys vs bs) (ht : ∀ y ∈ ys, y.isTup = false) : RoV w F (oneX ys) (if h : vs.toArray.size = 1 then vs.toArray[0] else .tuple vs.toArray) bs := by
  match ys, vs, h, ht with
  | [], vs, h, _ =>
    simp only [RoVL] at h
    obtain ⟨rfl, rfl⟩ := h
    exact ⟨[], rfl, by simp [RoVL]⟩
  | [y], vs, h, ht =>
    simp only [RoVL] at h
    obtain ⟨v, vs', cs, b1, b2, rfl, rfl, h1, h2, rfl, rfl⟩ := h
    have hy := ht y (by simp)
    simp only [oneX]
    unfold RoV
    split
    · simp [X.isTup] at hy
    · exact ⟨cs, by simpa using h1, by simpa using h2⟩
  | y1 :: y2 :: ys, vs, h, ht =>
    have h' := h
    simp only [RoVL] at h
    obtain ⟨v, vs', cs, b1, b2, rfl, rfl, h1, h2, v2, vs2, cs2, b3, b4, rfl, rfl, _⟩ := h
    simp only [oneX]
    rw [dif_neg (by simp)]
    exact ⟨_, rfl, h'⟩
end
end Go.EV
