/- What goes over to a call, and what comes back. -/
import Derived.Test.YtfadalgikdffeaaGreatEv14
set_option linter.unusedVariables false
set_option linter.unusedSimpArgs false
namespace Go.EV
open Go.RowKit
section
variable {P : Program} {T : TT} {w0 : World} {F0 F : Nat → Prop} {Pb : PB} {A : Nat → Option RA} {S : St} {tm : Nat → Value} {w : World}
/-- The blocks that go over are those of the places that are no longer named. -/
def Taken (A : Nat → Option RA) (r r' : Nat → Option X) (bs : List Nat) : Prop :=
  bs.Nodup ∧ (∀ b ∈ bs, ∃ g ra, A g = some ra ∧ 0 < ra.cap ∧ ra.b = b ∧ (r g).isSome = true ∧ r' g = none) ∧ ∀ g z, r' g = some z → r g = some z
theorem Taken.refl (r : Nat → Option X) : Taken A r r [] := ⟨.nil, by simp, fun _ _ h => h⟩
theorem Taken.trans (h : Inv w0 F0 Pb F A S tm w) {r r1 r2 : Nat → Option X} {b1 b2 : List Nat} (h1 : Taken A r r1 b1) (h2 : Taken A r1 r2 b2) : Taken A r r2 (b1 ++ b2) := by
  obtain ⟨n1, t1, s1⟩ := h1
  obtain ⟨n2, t2, s2⟩ := h2
  refine ⟨List.nodup_append.2 ⟨n1, n2, fun x hx y hy e => ?_⟩, fun b hb => ?_, fun g z hz => s1 g z (s2 g z hz)⟩
  · subst e
    obtain ⟨g1, ra1, A1, c1, e1, i1, o1⟩ := t1 x hx
    obtain ⟨g2, ra2, A2, c2, e2, i2, o2⟩ := t2 x hy
    by_cases hg : g1 = g2
    · subst hg; rw [o1] at i2; simp at i2
    · exact h.sep g1 g2 ra1 ra2 A1 A2 hg c1 c2 (e1.trans e2.symm)
  · rcases List.mem_append.1 hb with hb | hb
    · obtain ⟨g, ra, h1, h2, h3, h4, h5⟩ := t1 b hb
      refine ⟨g, ra, h1, h2, h3, h4, ?_⟩
      cases hr : r2 g with
      | none => rfl
      | some z => rw [s2 g z hr] at h5; cases h5
    · obtain ⟨g, ra, h1, h2, h3, h4, h5⟩ := t2 b hb
      refine ⟨g, ra, h1, h2, h3, ?_, h5⟩
      obtain ⟨z, hz⟩ := Option.isSome_iff_exists.1 h4
      rw [s1 g z hz]; rfl
theorem Taken.one {r : Nat → Option X} {g : Nat} {x : X} {ra : RA} (hA : A g = some ra) (hr : r g = some x) (hc : 0 < ra.cap) : Taken A r (upd r g none) [ra.b] := by
  refine ⟨by simp, fun b hb => ?_, fun k z hz => ?_⟩
  · simp at hb; subst hb
    exact ⟨g, ra, hA, hc, rfl, by simp [hr], by simp [upd]⟩
  · unfold upd at hz
    split at hz
    · cases hz
    · exact hz
theorem Taken.zero {r : Nat → Option X} {g : Nat} : Taken A r (upd r g none) [] :=
  ⟨.nil, by simp, fun k z hz => by unfold upd at hz; split at hz; cases hz; exact hz⟩
/-- What holds at each depth. -/
def DeepOk (w : World) (F : Nat → Prop) (A : Nat → Option RA) (r0 : Nat → Option X) (deep : (Nat → Option X) → X → Option (X × (Nat → Option X))) : Prop :=
  ∀ (r : Nat → Option X) (x y : X) (r' : Nat → Option X) (cs : List Value), (∀ g z, r g = some z → r0 g = some z) → deep r x = some (y, r') → Rc w F A x cs → ∃ bs, Ro w F y cs bs ∧ Taken A r r' bs ∧ y.size = x.size ∧ y.arD = x.arD
mutual
theorem reiX_ok (h : Inv w0 F0 Pb F A S tm w) {deep : (Nat → Option X) → X → Option (X × (Nat → Option X))} (hd : DeepOk w F A S.r deep) : ∀ {x y : X} {r r' : Nat → Option X} {cs : List Value}, (∀ g z, r g = some z → S.r g = some z) → reiX deep r x = some (y, r') → Rc w F A x cs →
    ∃ bs, Ro w F y cs bs ∧ Taken A r r' bs ∧ y.size = x.size ∧ y.arD = x.arD
  | .ag xs, y, r, r', cs, hr, hq, hc => by
    simp only [reiX] at hq
    obtain ⟨q, hq1, he⟩ := Option.map_eq_some_iff.1 hq
    simp only [Prod.mk.injEq] at he
    obtain ⟨rfl, rfl⟩ := he
    simp only [Rc] at hc
    obtain ⟨bs, h1, h2, h3⟩ := reiL_ok h hd hr hq1 hc
    exact ⟨bs, by simpa only [Ro] using h1, h2, by simpa only [X.size] using h3, rfl⟩
  | .hw g, y, r, r', cs, hr, hq, hc => by
    simp only [reiX] at hq
    split at hq
    · rename_i d c hg
      simp only [Option.some.injEq, Prod.mk.injEq] at hq
      obtain ⟨rfl, rfl⟩ := hq
      simp only [Rc] at hc
      obtain ⟨ra, a, c', hA, rfl, g1, g2, g3⟩ := hc
      obtain ⟨pc, hpc, hdd, hn, hcap, hown⟩ := h.places.ar (hr g _ hg) hA
      by_cases hc0 : c' = 0
      · refine ⟨[], ?_, Taken.zero, by simp [X.size], rfl⟩
        simp only [Ro]
        exact ⟨a, c', by rw [hn], by omega, .inl (by simp [hc0])⟩
      · rcases g3 with g3 | rfl
        · exact absurd g3 hc0
        · refine ⟨[ra.b], ?_, Taken.one hA hg (by omega), by simp [X.size], rfl⟩
          simp only [Ro]
          refine ⟨_, c', by rw [hn], by omega, .inr ⟨ra.b, ra.o, pc, rfl, rfl, hpc, ?_⟩⟩
          obtain ⟨all, e', fz, o1, o2, o3, o4⟩ := hown (by omega)
          refine ⟨all, e', fz, o1, o2, ?_, o4⟩
          have : c' * d ≤ ra.cap * d := Nat.mul_le_mul_right _ g2
          rw [hdd] at o3; omega
    · cases hq
  | .hd g lo len f, y, r, r', cs, hr, hq, hc => by
    simp only [reiX] at hq
    split at hq
    · rename_i d c hg
      simp only [Option.some.injEq, Prod.mk.injEq] at hq
      obtain ⟨rfl, rfl⟩ := hq
      simp only [Rc] at hc
      obtain ⟨ra, a, c', hA, rfl, g1, g2, g4, g5, g3⟩ := hc
      obtain ⟨pc, hpc, hdd, hn, hcap, hown⟩ := h.places.ar (hr g _ hg) hA
      have hl : (mid lo len c).length = len := by simp [mid]; omega
      by_cases hc0 : c' = 0
      · refine ⟨[], ?_, Taken.zero, by simp [X.size], rfl⟩
        simp only [Ro]
        exact ⟨a, c', by rw [hl], by omega, .inl (by simp [hc0])⟩
      · rcases g3 with g3 | rfl
        · exact absurd g3 hc0
        · refine ⟨[ra.b], ?_, Taken.one hA hg (by omega), by simp [X.size], rfl⟩
          simp only [Ro]
          refine ⟨_, c', by rw [hl], by omega, .inr ⟨ra.b, ra.o + lo * ra.d, _, rfl, rfl, rfE_mid lo len hpc, ?_⟩⟩
          obtain ⟨all, e', fz, o1, o2, o3, o4⟩ := hown (by omega)
          refine ⟨all, e', fz, o1, fun j u hu => ?_, ?_, o4⟩
          · rw [List.getElem?_take] at hu
            split at hu
            · rw [List.getElem?_drop] at hu
              have := o2 _ u hu
              rw [hdd, show ra.o + lo * d + j = ra.o + (lo * d + j) by omega]
              exact this
            · cases hu
          · have : (lo + c') * d ≤ ra.cap * d := Nat.mul_le_mul_right _ g2
            rw [Nat.add_mul] at this
            rw [hdd] at o3 ⊢; omega
    · cases hq
  | .pt g off p, y, r, r', cs, hr, hq, hc => by
    simp only [reiX] at hq
    split at hq
    · rename_i hz
      obtain ⟨rfl, rfl⟩ := hz
      split at hq
      · rename_i z hg
        split at hq
        · rename_i hh
          obtain ⟨har, hsz⟩ := hh
          obtain ⟨q, hq1, he⟩ := Option.map_eq_some_iff.1 hq
          simp only [Prod.mk.injEq] at he
          obtain ⟨rfl, rfl⟩ := he
          simp only [Rc] at hc
          obtain ⟨ra, hA, hcap, rfl⟩ := hc
          obtain ⟨ra', c, hA', hok⟩ := h.rv g z (hr g z hg)
          rw [hA] at hA'; cases hA'
          obtain ⟨bs, h1, h2, h3, h4⟩ := hd (upd r g none) z q.1 q.2 c (fun k u hu => hr k u (by unfold upd at hu; split at hu; cases hu; exact hu)) hq1 hok.rc
          refine ⟨ra.b :: bs, ?_, (Taken.one hA hg hcap).trans h h2, by simp [X.size], rfl⟩
          simp only [Ro]
          refine ⟨ra.b, ra.o, c, bs, by simp, rfl, h1, by rw [h4]; exact har, by rw [h3]; exact hsz, ?_⟩
          rw [h3]
          have hdim := hok.dim
          have : ra.cap * ra.d = z.size := by
            have : ra.cap = 1 ∧ ra.d = z.size := by cases z <;> simp_all [dimOk, X.arD]
            rw [this.1, this.2]; simp
          rw [← this]; exact hok.own hcap
        · cases hq
      · cases hq
    · cases hq
  | .b v, y, r, r', cs, hr, hq, hc | .i k n, y, r, r', cs, hr, hq, hc | .s l, y, r, r', cs, hr, hq, hc | .ar d xs, y, r, r', cs, hr, hq, hc | .sl f xs, y, r, r', cs, hr, hq, hc | .np, y, r, r', cs, hr, hq, hc | .pf x, y, r, r', cs, hr, hq, hc | .nm, y, r, r', cs, hr, hq, hc | .nf, y, r, r', cs, hr, hq, hc => by
    simp only [reiX, Option.some.injEq, Prod.mk.injEq] at hq
    obtain ⟨rfl, rfl⟩ := hq
    simp only [Rc] at hc
    exact ⟨[], by simp only [Ro]; exact ⟨trivial, hc⟩, Taken.refl _, rfl, rfl⟩
  | .bot, y, r, r', cs, hr, hq, hc | .tup _, y, r, r', cs, hr, hq, hc | .fn _ _, y, r, r', cs, hr, hq, hc | .ow _ _, y, r, r', cs, hr, hq, hc | .ob _, y, r, r', cs, hr, hq, hc => by simp [reiX] at hq
theorem reiL_ok (h : Inv w0 F0 Pb F A S tm w) {deep : (Nat → Option X) → X → Option (X × (Nat → Option X))} (hd : DeepOk w F A S.r deep) : ∀ {xs : List X} {q : List X × (Nat → Option X)} {r : Nat → Option X} {cs : List Value}, (∀ g z, r g = some z → S.r g = some z) → reiL deep r xs = some q → RcL w F A xs cs →
    ∃ bs, RoL w F q.1 cs bs ∧ Taken A r q.2 bs ∧ sizeL q.1 = sizeL xs
  | [], q, r, cs, hr, hq, hc => by
    simp only [reiL, Option.some.injEq] at hq
    subst hq
    simp only [RcL] at hc
    exact ⟨[], by simp [RoL, hc], Taken.refl _, rfl⟩
  | x :: xs, q, r, cs, hr, hq, hc => by
    simp only [reiL] at hq
    split at hq
    · rename_i q1 hx
      obtain ⟨q2, hxs, rfl⟩ := Option.map_eq_some_iff.1 hq
      simp only [RcL] at hc
      obtain ⟨c1, c2, rfl, r1, r2⟩ := hc
      obtain ⟨b1, o1, t1, s1, _⟩ := reiX_ok h hd hr (y := q1.1) (r' := q1.2) hx r1
      obtain ⟨b2, o2, t2, s2⟩ := reiL_ok h hd (fun g z hz => hr g z (t1.2.2 g z hz)) hxs r2
      exact ⟨b1 ++ b2, by simp only [RoL]; exact ⟨c1, c2, b1, b2, rfl, rfl, o1, o2⟩, t1.trans h t2, by simp [sizeL, s1, s2]⟩
    · cases hq
end
theorem rei_ok (h : Inv w0 F0 Pb F A S tm w) : ∀ n, DeepOk w F A S.r (rei n)
  | 0 => fun r x y r' cs _ hq _ => by simp [rei] at hq
  | n + 1 => fun r x y r' cs hr hq hc => reiX_ok h (rei_ok h n) hr hq hc
theorem reiX_agg {deep : (Nat → Option X) → X → Option (X × (Nat → Option X))} {r r' : Nat → Option X} {x y : X} (h : reiX deep r x = some (y, r')) : y.agg = x.agg ∧ x.isBot = false ∧ x.isTup = false ∧ y.isTup = false := by
  cases x <;> simp only [reiX] at h <;> (try (cases h; done)) <;> (repeat' (split at h)) <;> (try (cases h; done)) <;> (try (obtain ⟨q, _, he⟩ := Option.map_eq_some_iff.1 h; simp only [Prod.mk.injEq] at he; obtain ⟨rfl, _⟩ := he; simp [X.agg, X.isBot, X.isTup]; done)) <;> (simp only [Option.some.injEq, Prod.mk.injEq] at h; obtain ⟨rfl, _⟩ := h; simp [X.agg, X.isBot, X.isTup])
theorem ro_tup {w : World} {F : Nat → Prop} {x : X} {cs : List Value} {bs : List Nat} (h : Ro w F x cs bs) : x.isTup = false := by
  cases x <;> first | rfl | simp [Ro] at h
mutual
theorem frz_there {r : Nat → Option X} : ∀ {x y : X}, frz r x = some y → ∀ g ∈ x.refs, r g ≠ none
  | .ag xs, y, h, g, hg => by
    simp only [frz] at h
    obtain ⟨ys, hys, rfl⟩ := Option.map_eq_some_iff.1 h
    exact frzL_there hys g (by simpa only [X.refs] using hg)
  | .hw k, y, h, g, hg => by
    simp only [X.refs, List.mem_singleton] at hg
    subst hg
    simp only [frz] at h
    intro e
    rw [e] at h
    cases h
  | .hd k lo len f, y, h, g, hg => by
    simp only [X.refs, List.mem_singleton] at hg
    subst hg
    simp only [frz] at h
    intro e
    rw [e] at h
    cases h
  | .pt k o p, y, h, g, hg => by
    simp only [X.refs, List.mem_singleton] at hg
    subst hg
    simp only [frz] at h
    obtain ⟨_, _, z, hz, _⟩ := ptF_some h
    rw [hz]; simp
  | .b v, y, h, g, hg | .i k n, y, h, g, hg | .s l, y, h, g, hg | .ar d xs, y, h, g, hg | .sl f xs, y, h, g, hg | .np, y, h, g, hg | .pf x, y, h, g, hg | .nm, y, h, g, hg | .nf, y, h, g, hg | .ow _ _, y, h, g, hg | .ob _, y, h, g, hg | .bot, y, h, g, hg => by simp [X.refs] at hg
  | .tup _, y, h, g, hg | .fn _ _, y, h, g, hg => by simp [frz] at h
theorem frzL_there {r : Nat → Option X} : ∀ {xs ys : List X}, frzL r xs = some ys → ∀ g ∈ refsL xs, r g ≠ none
  | [], ys, h, g, hg => by simp [refsL] at hg
  | x :: xs, ys, h, g, hg => by
    simp only [frzL] at h
    split at h
    · rename_i y ys' h1 h2
      simp only [refsL, List.mem_append] at hg
      rcases hg with hg | hg
      · exact frz_there h1 g hg
      · exact frzL_there h2 g hg
    · cases h
end
def GivenL (w : World) (F : Nat → Prop) : List Md → List X → List X → List Value → List Nat → Prop
  | _, [], ys, vs, bs => ys = [] ∧ vs = [] ∧ bs = []
  | ms, x :: xs, ys, vs, bs => ∃ y ys' v vs', ys = y :: ys' ∧ vs = v :: vs' ∧
      ((ms.headD .rd = .rd ∧ y = x ∧ GivenL w F ms.tail xs ys' vs' bs) ∨
       (ms.headD .rd ≠ .rd ∧ ∃ cs b1 b2, bs = b1 ++ b2 ∧ Ro w F y cs b1 ∧ v = val y cs ∧ GivenL w F ms.tail xs ys' vs' b2))
/-- An array of no room goes over without a block. -/
def ZeroOk (A : Nat → Option RA) (r : Nat → Option X) (bi : List Nat) : List Md → List X → List Value → Prop
  | _, [], _ => True
  | ms, x :: xs, vs => (∀ g, x = .hw g → ms.headD .rd ≠ .rd → (r g).isSome = true ∧ ∀ a n, vs.head? = some (.slice a n 0) → ∀ ra, A g = some ra → 0 < ra.cap → ra.b ∉ bi) ∧ ZeroOk A r bi ms.tail xs vs.tail
theorem zeroOk_more (h : Inv w0 F0 Pb F A S tm w) {r r1 : Nat → Option X} {b1 b2 : List Nat} (ht : Taken A r r1 b1) : ∀ {xs : List X} {ms : List Md} {vs : List Value}, ZeroOk A r1 b2 ms xs vs → ZeroOk A r (b1 ++ b2) ms xs vs
  | [], _, _, _ => trivial
  | x :: xs, ms, vs, hz => by
    refine ⟨fun g hx hm => ?_, zeroOk_more h ht hz.2⟩
    obtain ⟨h1, h2⟩ := hz.1 g hx hm
    obtain ⟨z, hz1⟩ := Option.isSome_iff_exists.1 h1
    refine ⟨by rw [ht.2.2 g z hz1]; rfl, fun a n hv ra hA hc hm => ?_⟩
    rcases List.mem_append.1 hm with hm | hm
    · obtain ⟨g', ra', hA', hc', hb, _, hn⟩ := ht.2.1 _ hm
      have hne : g' ≠ g := fun e => by subst e; rw [hz1] at hn; cases hn
      exact h.sep g' g ra' ra hA' hA hne hc' hc hb
    · exact h2 a n hv ra hA hc hm
theorem giveL_ok (h : Inv w0 F0 Pb F A S tm w) : ∀ {xs : List X} {ms : List Md} {r : Nat → Option X} {q : List X × (Nat → Option X)} {vs : List Value}, (∀ g z, r g = some z → S.r g = some z) → giveL ms r xs = some q → All2 (fun x v => Rv w F A x v) xs vs →
    ∃ bs, GivenL w F ms xs q.1 vs bs ∧ Taken A r q.2 bs ∧ ZeroOk A r bs ms xs vs
  | [], ms, r, q, vs, hr, hq, hv => by
    simp only [giveL, Option.some.injEq] at hq
    subst hq
    cases hv
    exact ⟨[], ⟨rfl, rfl, rfl⟩, Taken.refl _, trivial⟩
  | x :: xs, ms, r, q, v :: vs, hr, hq, .cons hx hxs => by
    have key : ms.headD .rd ≠ .rd → (match rei 8 r x with | some y => (giveL ms.tail y.2 xs).map fun q => (y.1 :: q.1, q.2) | none => none) = some q →
        ∃ bs, GivenL w F ms (x :: xs) q.1 (v :: vs) bs ∧ Taken A r q.2 bs ∧ ZeroOk A r bs ms (x :: xs) (v :: vs) := by
      intro hm hq
      split at hq
      · rename_i y hy
        obtain ⟨p, hp, rfl⟩ := Option.map_eq_some_iff.1 hq
        have hy' : reiX (rei 7) r x = some (y.1, y.2) := hy
        obtain ⟨a1, a2, a3, a4⟩ := reiX_agg hy'
        obtain ⟨cs, hcs, hval⟩ := Rv.one hx a2 a3
        have one : ∃ b1, Ro w F y.1 cs b1 ∧ Taken A r y.2 b1 ∧ (∀ g, x = .hw g → (r g).isSome = true ∧ y.2 g = none) ∧ ((∃ g a n, x = .hw g ∧ v = .slice a n 0) → b1 = []) := by
          by_cases hz : ∃ g a n, x = .hw g ∧ v = .slice a n 0
          · obtain ⟨g, a, n, rfl, rfl⟩ := hz
            simp only [reiX] at hy'
            split at hy'
            · rename_i d c hg
              simp only [Option.some.injEq, Prod.mk.injEq] at hy'
              obtain ⟨e1, e2⟩ := hy'
              simp only [Rc] at hcs
              obtain ⟨ra, a', c', hA, rfl, g1, g2, g3⟩ := hcs
              simp only [val, X.agg, Bool.false_eq_true, if_false, List.headD_cons, Value.slice.injEq] at hval
              obtain ⟨rfl, rfl, rfl⟩ := hval
              obtain ⟨pc, hpc, hdd, hn, hcap, hown⟩ := h.places.ar (hr g _ hg) hA
              refine ⟨[], ?_, by rw [← e2]; exact Taken.zero, fun k hk => ?_, fun _ => rfl⟩
              · rw [← e1]
                simp only [Ro]
                exact ⟨a, 0, by rw [hn], by omega, .inl (by simp)⟩
              · cases hk
                exact ⟨by simp [hg], by rw [← e2]; simp [upd]⟩
            · cases hy'
          · obtain ⟨b1, o1, t1, _, _⟩ := reiX_ok h (rei_ok h 7) hr hy' hcs
            refine ⟨b1, o1, t1, fun k hk => ?_, fun hh => absurd hh hz⟩
            subst hk
            simp only [reiX] at hy'
            split at hy'
            · rename_i d c hg
              simp only [Option.some.injEq, Prod.mk.injEq] at hy'
              obtain ⟨e1, e2⟩ := hy'
              exact ⟨by simp [hg], by rw [← e2]; simp [upd]⟩
            · cases hy'
        obtain ⟨b1, o1, t1, z1, z2⟩ := one
        obtain ⟨b2, g1, g2, g3⟩ := giveL_ok h (fun g z hz => hr g z (t1.2.2 g z hz)) hp hxs
        refine ⟨b1 ++ b2, ?_, t1.trans h g2, ⟨fun g hxg _ => ?_, zeroOk_more h t1 g3⟩⟩
        · simp only [GivenL]
          exact ⟨y.1, p.1, v, vs, rfl, rfl, .inr ⟨hm, cs, b1, b2, rfl, o1, by rw [hval]; simp [val, a1], g1⟩⟩
        · obtain ⟨z3, z4⟩ := z1 g hxg
          refine ⟨z3, fun a n hv ra hA hc hmem => ?_⟩
          simp only [List.head?_cons, Option.some.injEq] at hv
          rw [z2 ⟨g, a, n, hxg, hv⟩, List.nil_append] at hmem
          obtain ⟨g', ra', hA', hc', hb, hs, _⟩ := g2.2.1 _ hmem
          have hne : g' ≠ g := fun e => by subst e; rw [z4] at hs; cases hs
          exact h.sep g' g ra' ra hA' hA hne hc' hc hb
      · cases hq
    simp only [giveL] at hq
    cases hm : ms.headD .rd with
    | rd =>
      rw [hm] at hq
      obtain ⟨p, hp, rfl⟩ := Option.map_eq_some_iff.1 hq
      obtain ⟨bs, g1, g2, g3⟩ := giveL_ok h hr hp hxs
      exact ⟨bs, by simp only [GivenL]; exact ⟨x, p.1, v, vs, rfl, rfl, .inl ⟨hm, rfl, g1⟩⟩, g2, fun g _ hne => absurd hm hne, g3⟩
    | io => rw [hm] at hq; exact key (fun e => by rw [hm] at e; cases e) hq
    | ow => rw [hm] at hq; exact key (fun e => by rw [hm] at e; cases e) hq
theorem lend_ok (h : Inv w0 F0 Pb F A S tm w) {r' : Nat → Option X} (hr : ∀ g z, r' g = some z → S.r g = some z) {Fc : Nat → Prop} (hF : ∀ b, F b → Fc b) : ∀ {xs : List X} {ms : List Md} {ys ts : List X} {vs : List Value} {bs : List Nat}, GivenL w F ms xs ys vs bs → All2 (fun x v => Rv w F A x v) xs vs → lendL ms r' ys = some ts →
    (∀ g ∈ refsL (rdL ms xs), ∀ ra, A g = some ra → 0 < ra.cap → Fc ra.b) → RoVL w Fc ts vs bs ∧ ∀ g ∈ refsL (rdL ms xs), r' g ≠ none
  | [], ms, ys, ts, vs, bs, hg, hv, hl, hc => by
    obtain ⟨rfl, rfl, rfl⟩ := hg
    simp only [lendL, Option.some.injEq] at hl
    subst hl
    exact ⟨by simp [RoVL], by simp [rdL, refsL]⟩
  | x :: xs, ms, ys, ts, vs, bs, hg, hv, hl, hc => by
    have hP : Places w F A r' := fun g c hg => h.places g c (hr g c hg)
    simp only [GivenL] at hg
    obtain ⟨y, ys', v, vs', rfl, rfl, hg⟩ := hg
    cases hv with
    | cons hx hxs =>
      rcases hg with ⟨hm, rfl, hg⟩ | ⟨hm, cs, b1, b2, rfl, ho, hval, hg⟩
      · simp only [lendL, hm] at hl
        split at hl
        · rename_i t ts' h1 h2
          cases hl
          simp only [rdL, hm, refsL] at hc ⊢
          obtain ⟨k1, k2⟩ := lend_ok h hr hF hg hxs h2 (fun g hg => hc g (List.mem_append.2 (.inr hg)))
          have hone := frzL_vals (F' := Fc) hP hF (xs := [y]) (ys := [t]) (vs := [v]) (by simp [frzL, h1]) (fun g hg => hc g (by simp only [refsL, List.append_nil] at hg; exact List.mem_append.2 (.inl hg))) (.cons hx .nil)
          cases hone with
          | cons hh _ =>
            obtain ⟨cs, c1, c2⟩ := hh
            refine ⟨by simp only [RoVL]; exact ⟨v, vs', cs, [], bs, rfl, rfl, rf_ro c1, c2, k1⟩, fun g hg => ?_⟩
            rcases List.mem_append.1 hg with hg | hg
            · exact frz_there h1 g hg
            · exact k2 g hg
        · cases hl
      · have hl' : (lendL ms.tail r' ys').map (y :: ·) = some ts := by
          simp only [lendL] at hl
          cases hmm : ms.headD .rd with
          | rd => exact absurd hmm hm
          | io => rw [hmm] at hl; exact hl
          | ow => rw [hmm] at hl; exact hl
        obtain ⟨ts', h2, rfl⟩ := Option.map_eq_some_iff.1 hl'
        have hrd : rdL ms (x :: xs) = rdL ms.tail xs := by
          simp only [rdL]
          cases hmm : ms.headD .rd with
          | rd => exact absurd hmm hm
          | io => rfl
          | ow => rfl
        rw [hrd] at hc ⊢
        obtain ⟨k1, k2⟩ := lend_ok h hr hF hg hxs h2 hc
        exact ⟨by simp only [RoVL]; exact ⟨v, vs', cs, b1, b2, rfl, rfl, ro_mono hF ho, hval, k1⟩, k2⟩
/-- The world turns in blocks of which the state says nothing. -/
theorem Inv.other (h : Inv w0 F0 Pb F A S tm w) {w' : World} {bi : List Nat} (hb : Bel bi w w') (hF : ∀ b ∈ bi, ¬ F b) (hP : ∀ b ∈ bi, b < w0.heap.size → Pb b) (hA : ∀ g ra, A g = some ra → 0 < ra.cap → ra.b ∉ bi) : Inv w0 F0 Pb F A S tm w' where
  os := hb.os.trans h.os
  tape := hb.tape.trans h.tape
  output := hb.output.trans h.output
  size := Nat.le_trans h.size hb.size
  keep b h1 h2 := (hb.keep b (Nat.lt_of_lt_of_le h1 h.size) (fun hm => h2 (hP b hm h1))).trans (h.keep b h1 h2)
  fo b hf := ⟨Nat.lt_of_lt_of_le (h.fo b hf).1 hb.size, (h.fo b hf).2⟩
  tv v := (h.tv v).mono (fun _ h => h) (fun b hf => hb.keep b (h.fo b hf).1 (fun hm => hF b hm hf)) (ASub.refl A)
  rv g x hg := by
    obtain ⟨ra, c, h1, h2⟩ := h.rv g x hg
    exact ⟨ra, c, h1, h2.mono (fun _ h => h) (fun b hf => hb.keep b (h.fo b hf).1 (fun hm => hF b hm hf)) (ASub.refl A) (fun hc => hb.keep _ (h.nw g ra h1 hc).1 (hA g ra h1 hc))⟩
  lv := h.lv
  sep := h.sep
  nw g ra hg hc := ⟨Nat.lt_of_lt_of_le (h.nw g ra hg hc).1 hb.size, (h.nw g ra hg hc).2⟩
  pin := h.pin
  shape := h.shape.trans hb.shape
/-- What places hold that come back: bt their own blocks, bn those in them. -/
def TopsOk (w : World) (F : Nat → Prop) (AT : Nat → Option RA) (bi : List Nat) : List Nat → List X → List Nat → List Nat → Prop
  | [], cs, bt, bn => cs = [] ∧ bt = [] ∧ bn = []
  | g :: gs, cs, bt, bn => ∃ c cs' ra cv b1 t1 n1 n2, cs = c :: cs' ∧ bt = b1 ++ t1 ∧ bn = n1 ++ n2 ∧ AT g = some ra ∧ Ro w F c cv n1 ∧ c.isTup = false ∧
      ((b1 = [ra.b] ∧ ∃ m, Own w ra.b ra.o cv m) ∨ (b1 = [] ∧ cv = [] ∧ (0 < ra.cap → ra.b ∉ bi))) ∧ TopsOk w F AT bi gs cs' t1 n2
/-- .. with names. -/
def TopsC (w : World) (F : Nat → Prop) (AT A : Nat → Option RA) (bi : List Nat) : List Nat → List X → List Nat → Prop
  | [], cs, bt => cs = [] ∧ bt = []
  | g :: gs, cs, bt => ∃ c cs' ra cv b1 t1, cs = c :: cs' ∧ bt = b1 ++ t1 ∧ AT g = some ra ∧ Rc w F A c cv ∧
      ((b1 = [ra.b] ∧ ∃ m, Own w ra.b ra.o cv m) ∨ (b1 = [] ∧ cv = [] ∧ (0 < ra.cap → ra.b ∉ bi))) ∧ TopsC w F AT A bi gs cs' t1
theorem TopsC.mono {F' : Nat → Prop} {AT A A' : Nat → Option RA} {bi : List Nat} (hA : ASub A A') : ∀ {gs : List Nat} {cs : List X} {bt : List Nat}, TopsC w F AT A bi gs cs bt → TopsC w F AT A' bi gs cs bt
  | [], _, _, h => h
  | g :: gs, cs, bt, h => by
    obtain ⟨c, cs', ra, cv, b1, t1, h1, h2, h3, h4, h5, h6⟩ := h
    exact ⟨c, cs', ra, cv, b1, t1, h1, h2, h3, rc_mono (fun _ h => h) (fun _ _ => rfl) hA h4, h5, TopsC.mono (F' := F') hA h6⟩
theorem impT_ok {nm : Nat → Nat} {lim : Nat} {AT : Nat → Option RA} {bi : List Nat} (hp : ∀ g ra, g < lim → nlim ≤ g → Pb.pin g ra) : ∀ {gs : List Nat} {cs : List X} {j : Nat} {bt bn : List Nat} {S : St} {A : Nat → Option RA} {r' : Nat → Option X}, Inv w0 F0 Pb F A S tm w → TopsOk w F AT bi gs cs bt bn → Free w0 Pb F w A bn → addR lim S.r (impL nm j cs).2.1 = some r' →
    ∃ A', Inv w0 F0 Pb F A' { S with r := r' } tm w ∧ ASub A A' ∧ TopsC w F AT A' bi gs (impL nm j cs).1 bt ∧ (∀ k rb, A' k = some rb → 0 < rb.cap → A k = some rb ∨ rb.b ∈ bn)
  | [], cs, j, bt, bn, S, A, r', h, ht, hf, ha => by
    obtain ⟨rfl, rfl, rfl⟩ := ht
    simp only [impL, addR, Option.some.injEq] at ha ⊢
    subst ha
    exact ⟨A, h, fun _ _ h => h, ⟨rfl, rfl⟩, fun k rb hk _ => .inl hk⟩
  | g :: gs, cs, j, bt, bn, S, A, r', h, ht, hf, ha => by
    obtain ⟨c, cs', ra, cv, b1, t1, n1, n2, rfl, rfl, rfl, hA, hro, htup, hc, ht⟩ := ht
    simp only [impL] at ha ⊢
    rw [addR_append] at ha
    obtain ⟨r1, ha1, ha2⟩ := Option.bind_eq_some_iff.1 ha
    obtain ⟨A1, h1, s1, q1, p1⟩ := imp_ok hp h hro hf.left ha1
    obtain ⟨A2, h2, s2, q2, p2⟩ := impT_ok hp h1 ht (hf.right p1) ha2
    refine ⟨A2, h2, fun k rb hk => s2 k rb (s1 k rb hk), ?_, fun k rb hk hc => ?_⟩
    · exact ⟨_, _, ra, cv, b1, t1, rfl, rfl, hA, rc_mono (fun _ h => h) (fun _ _ => rfl) s2 q1, hc, q2⟩
    · rcases p2 k rb hk hc with h5 | h5
      · rcases p1 k rb h5 hc with h6 | h6
        · exact .inl h6
        · right; simp [h6]
      · right; simp [h5]
/-- What comes back, as the places hold it. -/
theorem backL_ok (h : Inv w0 F0 Pb F A S tm w) {w' : World} {F' : Nat → Prop} {bi : List Nat} {r : Nat → Option X} : ∀ {xs : List X} {ms : List Md} {outs : List X} {q : List Nat × List X} {vs : List Value} {bo : List Nat}, backL ms xs outs = some q → All2 (fun x v => Rv w F A x v) xs vs → RoB w' F' outs vs bo → ZeroOk A r bi ms xs vs →
    ∃ bt bn, TopsOk w' F' A bi q.1 q.2 bt bn ∧ ∀ a, (bt ++ bn).count a ≤ bo.count a
  | [], ms, outs, q, vs, bo, hq, hv, ho, hz => by
    simp only [backL, Option.some.injEq] at hq
    subst hq
    exact ⟨[], [], ⟨rfl, rfl, rfl⟩, by simp⟩
  | x :: xs, ms, outs, q, v :: vs, bo, hq, .cons hx hxs, ho, hz => by
    have rest : ∀ {q}, backL ms.tail xs outs.tail = some q → ∃ bt bn, TopsOk w' F' A bi q.1 q.2 bt bn ∧ ∀ a, (bt ++ bn).count a ≤ bo.count a := by
      intro q hq
      cases outs with
      | nil =>
        simp only [RoB] at ho
        subst ho
        obtain ⟨bt, bn, k1, k2⟩ := backL_ok h (outs := []) (bo := []) hq hxs (by simp [RoB]) hz.2
        exact ⟨bt, bn, k1, k2⟩
      | cons o outs =>
        simp only [RoB] at ho
        obtain ⟨v', vs', b1, b2, he, rfl, _, ho⟩ := ho
        simp only [List.cons.injEq] at he
        obtain ⟨rfl, rfl⟩ := he
        obtain ⟨bt, bn, k1, k2⟩ := backL_ok h hq hxs ho hz.2
        exact ⟨bt, bn, k1, fun a => by have := k2 a; simp only [List.count_append] at this ⊢; omega⟩
    simp only [backL] at hq
    cases hm : ms.headD .rd with
    | rd => rw [hm] at hq; exact rest hq
    | ow => rw [hm] at hq; exact rest hq
    | io =>
      rw [hm] at hq
      cases outs with
      | nil => cases hq
      | cons o outs =>
        simp only at hq
        split at hq
        · rename_i g c p hg hc hp
          cases hq
          simp only [RoB] at ho
          obtain ⟨v', vs', b1, b2, he, rfl, ho1, ho⟩ := ho
          simp only [List.cons.injEq] at he
          obtain ⟨rfl, rfl⟩ := he
          obtain ⟨bt, bn, k1, k2⟩ := backL_ok h hp hxs ho hz.2
          have hz1 := hz.1
          rcases ho1 with ⟨rfl, _⟩ | ⟨cs, hro, hval⟩
          · cases hc
          · unfold contX at hc
            split at hc
            · rename_i y
              cases hc
              simp only [Ro] at hro
              obtain ⟨b, o', cv, bs', rfl, rfl, h1, h2, h3, h4⟩ := hro
              simp only [val, X.agg, Bool.false_eq_true, if_false, List.headD_cons] at hval
              unfold topOf at hg
              split at hg
              · cases hg
                obtain ⟨ra, hA, hcap, hv⟩ := pt_of hx
                rw [hval] at hv
                simp only [Value.pointer.injEq, Option.some.injEq, Addr.mk.injEq, and_true] at hv
                obtain ⟨rfl, rfl⟩ := hv
                refine ⟨[ra.b] ++ bt, bs' ++ bn, ⟨_, p.2, ra, cv, [ra.b], bt, bs', bn, rfl, rfl, rfl, hA, h1, ro_tup h1, .inl ⟨rfl, _, by simpa using h4⟩, k1⟩, fun a => ?_⟩
                have := k2 a
                simp only [List.count_append, List.count_cons, List.count_nil] at this ⊢
                omega
              · obtain ⟨ra, a, c, hA, hv, _⟩ := hw_of hx
                rw [hval] at hv
                cases hv
              · cases hg
            · rename_i d ys
              cases hc
              simp only [Ro] at hro
              obtain ⟨a, c, rfl, hlc, hro⟩ := hro
              simp only [val, X.agg, Bool.false_eq_true, if_false, List.headD_cons] at hval
              unfold topOf at hg
              split at hg
              · obtain ⟨ra, hA, hcap, hv⟩ := pt_of hx
                rw [hval] at hv
                cases hv
              · cases hg
                obtain ⟨ra, a', c', hA, hv, g1, g2, g3⟩ := hw_of hx
                rw [hval] at hv
                simp only [Value.slice.injEq] at hv
                obtain ⟨rfl, hn, rfl⟩ := hv
                by_cases hc0 : c = 0
                · subst hc0
                  have hys : ys = [] := List.eq_nil_of_length_eq_zero (by omega)
                  subst hys
                  refine ⟨bt, bn, ⟨.ar d [], p.2, ra, [], [], bt, [], bn, rfl, rfl, rfl, hA, by simp [Ro, Rf, RfE], rfl, .inr ⟨rfl, rfl, ?_⟩, k1⟩, fun a => by have := k2 a; simp only [List.count_append] at this ⊢; omega⟩
                  intro hcap
                  exact (hz1 _ rfl (by rw [hm]; simp)).2 a 0 (by simp [hval]) ra hA hcap
                · rcases hro with ⟨h0, _⟩ | ⟨b, o', cs', rfl, rfl, hrf, hown⟩
                  · exact absurd h0 hc0
                  · rcases g3 with g3 | g3
                    · exact absurd g3 hc0
                    · cases g3
                      refine ⟨[ra.b] ++ bt, [] ++ bn, ⟨.ar d ys, p.2, ra, cs', [ra.b], bt, [], bn, rfl, rfl, rfl, hA, by simp only [Ro]; exact ⟨trivial, by simpa only [Rf] using hrf⟩, rfl, .inl ⟨rfl, _, hown⟩, k1⟩, fun a => ?_⟩
                      have := k2 a
                      simp only [List.count_append, List.count_cons, List.count_nil] at this ⊢
                      omega
              · cases hg
            · cases hc
        · cases hq
theorem addR_two {lim : Nat} : ∀ {l : List (Nat × X)} {r r' r2 : Nat → Option X}, addR lim r l = some r2 → (∀ g, r g = none → r' g = none) → ∃ r2', addR lim r' l = some r2' ∧ ∀ k, (r2 k = r k ∧ r2' k = r' k) ∨ (r k = none ∧ r2 k = r2' k ∧ (r2 k).isSome = true)
  | [], r, r', r2, h, hr => by
    simp only [addR, Option.some.injEq] at h
    subst h
    exact ⟨r', rfl, fun k => .inl ⟨rfl, rfl⟩⟩
  | (g, x) :: l, r, r', r2, h, hr => by
    simp only [addR] at h
    split at h
    · rename_i hg
      obtain ⟨hg1, hg2⟩ := freeN_none hg
      have hg' : freeN lim r' g = true := by simp [freeN, hr g hg1, hg2]
      obtain ⟨r2', k1, k2⟩ := addR_two (r' := upd r' g (some x)) h (fun k hk => by
        unfold upd at hk ⊢
        by_cases e : k = g
        · subst e; simp at hk
        · simp only [e, if_false] at hk ⊢; exact hr k hk)
      refine ⟨r2', by simp only [addR, hg']; exact k1, fun k => ?_⟩
      by_cases e : k = g
      · subst e
        rcases k2 k with ⟨e1, e2⟩ | ⟨e1, _⟩
        · simp only [upd, if_pos] at e1 e2
          exact .inr ⟨hg1, by rw [e1, e2], by rw [e1]; rfl⟩
        · simp [upd] at e1
      · rcases k2 k with ⟨e1, e2⟩ | ⟨e1, e2⟩
        · simp only [upd, e, if_false] at e1 e2
          exact .inl ⟨e1, e2⟩
        · simp only [upd, e, if_false] at e1
          exact .inr ⟨e1, e2⟩
    · cases h
/-- What the places hold, one by one. -/
theorem tops_get {w : World} {F : Nat → Prop} {AT A : Nat → Option RA} {bi : List Nat} : ∀ {gs : List Nat} {cs : List X} {bt : List Nat} {r r3 : Nat → Option X}, gs.Nodup → TopsC w F AT A bi gs cs bt → setTops r gs cs = some r3 →
    ∀ k, (k ∉ gs ∧ r3 k = r k) ∨ (k ∈ gs ∧ ∃ y c ra cv, r3 k = some y ∧ r k = some c ∧ y.size = c.size ∧ y.arD = c.arD ∧ AT k = some ra ∧ Rc w F A y cv ∧ ((ra.b ∈ bt ∧ ∃ m, Own w ra.b ra.o cv m) ∨ (cv = [] ∧ (0 < ra.cap → ra.b ∉ bi))))
  | [], cs, bt, r, r3, hn, ht, hs, k => by
    simp only [setTops, Option.some.injEq] at hs
    subst hs
    exact .inl ⟨by simp, rfl⟩
  | g :: gs, cs, bt, r, r3, hn, ht, hs, k => by
    obtain ⟨c, cs', ra, cv, b1, t1, rfl, rfl, hA, hrc, hc, ht⟩ := ht
    obtain ⟨hn1, hn2⟩ := List.nodup_cons.1 hn
    simp only [setTops] at hs
    split at hs
    · rename_i y ys c0 he hg
      simp only [List.cons.injEq] at he
      obtain ⟨rfl, rfl⟩ := he
      split at hs
      · rename_i hh
        rcases tops_get hn2 ht hs k with ⟨k1, k2⟩ | ⟨k1, y, c1, ra1, cv1, q1, q2, q3, q4, q5, q6, q7⟩
        · by_cases e : k = g
          · subst e
            refine .inr ⟨by simp, c, c0, ra, cv, by rw [k2]; simp [upd], hg, hh.1, hh.2, hA, hrc, ?_⟩
            rcases hc with ⟨rfl, hm⟩ | ⟨_, h1, h2⟩
            · exact .inl ⟨by simp, hm⟩
            · exact .inr ⟨h1, h2⟩
          · exact .inl ⟨by simp [e, k1], by rw [k2]; simp [upd, e]⟩
        · have e : k ≠ g := fun e => by subst e; exact hn1 k1
          refine .inr ⟨by simp [k1], y, c1, ra1, cv1, q1, by simpa [upd, e] using q2, q3, q4, q5, q6, ?_⟩
          rcases q7 with ⟨m1, m2⟩ | m
          · exact .inl ⟨List.mem_append.2 (.inr m1), m2⟩
          · exact .inr m
      · cases hs
    · cases hs
/-- The places that were away are back. -/
theorem Inv.untop {F1 F2 : Nat → Prop} {A1 A2 : Nat → Option RA} {S1 S2 : St} {w' : World} {bi tops bt : List Nat} {r2 r3 : Nat → Option X} {cs : List X} {nb : Nat → Prop}
    (h1 : Inv w0 F0 Pb F1 A1 S1 tm w) (hb : Bel bi w w') (hF1 : ∀ b ∈ bi, ¬ F1 b) (hA1 : ∀ k ra, A1 k = some ra → 0 < ra.cap → k ∉ tops → ra.b ∉ bi)
    (h2 : Inv w0 F0 Pb F2 A2 S2 tm w') (hF : ∀ b, F1 b → F2 b) (hsub : ∀ k ra, k ∉ tops → A1 k = some ra → A2 k = some ra)
    (hnew : ∀ k ra, A2 k = some ra → 0 < ra.cap → (A1 k = some ra ∧ k ∉ tops) ∨ nb ra.b) (hnt : ∀ k ∈ tops, S2.r k = none)
    (hnb : ∀ g ∈ tops, ∀ ra, A1 g = some ra → 0 < ra.cap → ¬ nb ra.b) (hnF : ∀ g ∈ tops, ∀ ra, A1 g = some ra → 0 < ra.cap → ¬ F2 ra.b)
    (hnd : tops.Nodup) (htc : TopsC w' F2 A1 A2 bi tops cs bt) (hs : setTops r2 tops cs = some r3)
    (hr : ∀ k, k ∉ tops → (r2 k = S1.r k) ∨ (S1.r k = none ∧ r2 k = S2.r k)) (hr1 : ∀ k, k ∉ tops → r2 k = none → S2.r k = none) (hr2 : ∀ k ∈ tops, r2 k = S1.r k) :
    Inv w0 F0 Pb F2 (fun k => if k ∈ tops then A1 k else A2 k) { S1 with r := r3 } tm w' ∧ ASub A2 (fun k => if k ∈ tops then A1 k else A2 k) := by
  have kp : Keeps F1 w w' := fun b hf => hb.keep b (h1.fo b hf).1 (fun hm => hF1 b hm hf)
  have hs1 : ASub A1 (fun k => if k ∈ tops then A1 k else A2 k) := fun k ra hk => by
    by_cases e : k ∈ tops
    · simpa [e] using hk
    · simpa [e] using hsub k ra e hk
  have hs2 : ASub A2 (fun k => if k ∈ tops then A1 k else A2 k) := fun k ra hk => by
    by_cases e : k ∈ tops
    · obtain ⟨x, hx⟩ := h2.lv k ra hk
      rw [hnt k e] at hx; cases hx
    · simpa [e] using hk
  have hg := tops_get hnd htc hs
  refine ⟨⟨h2.os, h2.tape, h2.output, h2.size, h2.keep, h2.fo, fun v => (h1.tv v).mono hF kp hs1, fun g x hx => ?_, fun g ra hg' => ?_, fun g k ra rb hgA hkA hne c1 c2 => ?_, fun g ra hgA hc => ?_, fun g ra hgA hl => ?_, h2.shape⟩, hs2⟩
  · replace hx : r3 g = some x := hx
    rcases hg g with ⟨k1, k2⟩ | ⟨k1, y, c, ra, cv, q1, q2, q3, q4, q5, q6, q7⟩
    · rw [k2] at hx
      rcases hr g k1 with e | ⟨_, e⟩
      · rw [e] at hx
        obtain ⟨ra, c, hA, hok⟩ := h1.rv g x hx
        exact ⟨ra, c, by simpa [k1] using hsub g ra k1 hA, hok.mono hF kp hs1 (fun hc => hb.keep _ (h1.nw g ra hA hc).1 (hA1 g ra hA hc k1))⟩
      · rw [e] at hx
        obtain ⟨ra, c, hA, hok⟩ := h2.rv g x hx
        exact ⟨ra, c, by simpa [k1] using hA, hok.mono (fun _ h => h) (fun _ _ => rfl) hs2 (fun _ => rfl)⟩
    · rw [q1] at hx; cases hx
      rw [hr2 g k1] at q2
      obtain ⟨ra', c0, hA, hok⟩ := h1.rv g c q2
      rw [q5] at hA; cases hA
      refine ⟨ra, cv, by simpa [k1] using q5, ⟨rc_mono (fun _ h => h) (fun _ _ => rfl) hs2 q6, hok.cap, dimOk_congr q4 q3 hok.dim, fun hc => ?_⟩⟩
      obtain ⟨all, e, fz, o1, o2, o3, o4⟩ := hok.own hc
      obtain ⟨all', s1, s2⟩ := hb.shape _ _ _ _ o1
      refine ⟨all', e, fz, s1, fun j u hu => ?_, by rw [s2]; exact o3, fun j j1 j2 => by rw [s2]; exact o4 j j1 j2⟩
      rcases q7 with ⟨_, m, all2, e2, fz2, p1, p2, p3, p4⟩ | ⟨rfl, _⟩
      · rw [s1] at p1
        cases p1
        exact p2 j u hu
      · simp at hu
  · rcases hg g with ⟨k1, k2⟩ | ⟨k1, y, c, ra, cv, q1, _⟩
    · simp only [k1, if_false] at hg'
      obtain ⟨x, hx⟩ := h2.lv g ra hg'
      cases hr2g : r2 g with
      | some x' => exact ⟨x', by rw [← hr2g]; exact k2⟩
      | none =>
        have := hr1 g k1 hr2g
        rw [hx] at this; cases this
    · exact ⟨y, q1⟩
  · by_cases eg : g ∈ tops
    · simp only [eg, if_true] at hgA
      by_cases ek : k ∈ tops
      · simp only [ek, if_true] at hkA
        exact h1.sep g k ra rb hgA hkA hne c1 c2
      · simp only [ek, if_false] at hkA
        rcases hnew k rb hkA c2 with ⟨hk, _⟩ | hk
        · exact h1.sep g k ra rb hgA hk hne c1 c2
        · intro e; exact hnb g eg ra hgA c1 (e ▸ hk)
    · simp only [eg, if_false] at hgA
      by_cases ek : k ∈ tops
      · simp only [ek, if_true] at hkA
        rcases hnew g ra hgA c1 with ⟨hk, _⟩ | hk
        · exact h1.sep g k ra rb hk hkA hne c1 c2
        · intro e; exact hnb k ek rb hkA c2 (e ▸ hk)
      · simp only [ek, if_false] at hkA
        exact h2.sep g k ra rb hgA hkA hne c1 c2
  · by_cases eg : g ∈ tops
    · simp only [eg, if_true] at hgA
      obtain ⟨n1, n2, n3⟩ := h1.nw g ra hgA hc
      exact ⟨Nat.lt_of_lt_of_le n1 hb.size, n2, hnF g eg ra hgA hc⟩
    · simp only [eg, if_false] at hgA
      exact h2.nw g ra hgA hc
  · by_cases eg : g ∈ tops
    · simp only [eg, if_true] at hgA
      exact h1.pin g ra hgA hl
    · simp only [eg, if_false] at hgA
      exact h2.pin g ra hgA hl
theorem Inv.freezeLB : ∀ {gs : List Nat} {S S1 : St} {F : Nat → Prop} {A : Nat → Option RA}, Inv w0 F0 Pb F A S tm w → EV.freezeL S gs = some S1 →
    ∃ F1 A1, Inv w0 F0 Pb F1 A1 S1 tm w ∧ (∀ b, F b → F1 b) ∧ (∀ g ∈ gs, ∀ ra, A g = some ra → 0 < ra.cap → F1 ra.b) ∧ (∀ k rb, A1 k = some rb → A k = some rb) ∧ (∀ b, F1 b → F b ∨ ∃ g ∈ gs, ∃ ra, A g = some ra ∧ 0 < ra.cap ∧ b = ra.b)
  | [], S, S1, F, A, h, hf => by
    simp only [EV.freezeL, Option.some.injEq] at hf
    subst hf
    exact ⟨F, A, h, fun _ h => h, by simp, fun _ _ h => h, fun b hb => .inl hb⟩
  | g :: gs, S, S1, F, A, h, hf => by
    simp only [EV.freezeL] at hf
    split at hf
    · rename_i hg
      obtain ⟨F1, A1, h1, h2, h3, h4, h5⟩ := Inv.freezeLB h hf
      refine ⟨F1, A1, h1, h2, fun k hk ra hA hc => ?_, h4, fun b hb => ?_⟩
      · rcases List.mem_cons.1 hk with rfl | hk
        · obtain ⟨x, hx⟩ := h.lv _ _ hA
          rw [hg] at hx; cases hx
        · exact h3 k hk ra hA hc
      · rcases h5 b hb with h6 | ⟨k, hk, h6⟩
        · exact .inl h6
        · exact .inr ⟨k, by simp [hk], h6⟩
    · split at hf
      · rename_i S' hS'
        obtain ⟨ra, hA, h'⟩ := h.freeze hS'
        obtain ⟨F1, A1, h1, h2, h3, h4, h5⟩ := Inv.freezeLB h' hf
        refine ⟨F1, A1, h1, fun b hb => h2 b (.inl hb), fun k hk rb hA' hc => ?_, fun k rb hk => by have := h4 k rb hk; unfold gone at this; split at this; cases this; exact this, fun b hb => ?_⟩
        · by_cases e : k = g
          · subst e
            rw [hA] at hA'; cases hA'
            exact h2 _ (.inr ⟨hc, rfl⟩)
          · rcases List.mem_cons.1 hk with rfl | hk
            · exact absurd rfl e
            · exact h3 k hk rb (by simp [gone, e, hA']) hc
        · rcases h5 b hb with (h6 | ⟨hc, rfl⟩) | ⟨k, hk, rb, hA', h6⟩
          · exact .inl h6
          · exact .inr ⟨g, by simp, ra, hA, hc, rfl⟩
          · exact .inr ⟨k, by simp [hk], rb, by unfold gone at hA'; split at hA'; cases hA'; exact hA', h6⟩
      · cases hf
theorem TopsOk.imp {w : World} {F F' : Nat → Prop} {AT AT' : Nat → Option RA} {bi : List Nat} : ∀ {gs : List Nat} {cs : List X} {bt bn : List Nat}, (∀ g ∈ gs, ∀ ra, AT g = some ra → AT' g = some ra) → (∀ c ∈ cs, ∀ cv n, Ro w F c cv n → Ro w F' c cv n) → TopsOk w F AT bi gs cs bt bn → TopsOk w F' AT' bi gs cs bt bn
  | [], _, _, _, _, _, h => h
  | g :: gs, _, _, _, hA, hR, h => by
    obtain ⟨c, cs', ra, cv, b1, t1, n1, n2, rfl, h2, h3, h4, h5, h6, h7, h8⟩ := h
    exact ⟨c, cs', ra, cv, b1, t1, n1, n2, rfl, h2, h3, hA g (by simp) ra h4, hR c (by simp) cv n1 h5, h6, h7, TopsOk.imp (fun g hg => hA g (by simp [hg])) (fun c hc => hR c (by simp [hc])) h8⟩
theorem TopsOk.each {w : World} {F : Nat → Prop} {AT : Nat → Option RA} {bi : List Nat} : ∀ {gs : List Nat} {cs : List X} {bt bn : List Nat}, TopsOk w F AT bi gs cs bt bn → ∀ g ∈ gs, ∃ ra, AT g = some ra ∧ (ra.b ∈ bt ∨ (0 < ra.cap → ra.b ∉ bi))
  | [], _, _, _, _, g, hg => by simp at hg
  | k :: gs, _, _, _, h, g, hg => by
    obtain ⟨c, cs', ra, cv, b1, t1, n1, n2, rfl, rfl, h3, h4, h5, h6, h7, h8⟩ := h
    rcases List.mem_cons.1 hg with rfl | hg
    · refine ⟨ra, h4, ?_⟩
      rcases h7 with ⟨rfl, _⟩ | ⟨_, _, h⟩
      · exact .inl (by simp)
      · exact .inr h
    · obtain ⟨ra', q1, q2⟩ := TopsOk.each h8 g hg
      exact ⟨ra', q1, q2.imp (fun h => List.mem_append.2 (.inr h)) id⟩
theorem flatL_mem : ∀ {xs : List X}, flatL xs = true → ∀ x ∈ xs, x.flat = true
  | [], _, x, hx => by simp at hx
  | y :: xs, h, x, hx => by
    simp only [flatL, Bool.and_eq_true] at h
    rcases List.mem_cons.1 hx with rfl | hx
    · exact h.1
    · exact flatL_mem h.2 x hx
variable {call : FuncId → List X → Option (X × List X)} {dst : Nat} {a : Act} {o : Oper} {x : X}
theorem callEff_ok (hc : CallOk P call) (h : Inv w0 F0 Pb F A S tm w) {an1 : An} {f : FuncId} {args : List X} {vals : List Value} (hvs : All2 (fun x v => Rv w F A x v) args vals) (hexec : (execOp a.eval o).run P w = (callFunc f vals.toArray).run P w) {S' : St} (hq : callEff call an1 S dst f args = some (x, S')) :
    EOk P w0 F0 Pb S' tm w o a x := by
  unfold callEff at hq
  split at hq
  case h_2 => cases hq
  rename_i gv hgv
  split at hq
  case h_2 => cases hq
  rename_i ts hts
  split at hq
  case h_2 => cases hq
  rename_i res outs hcall
  split at hq
  case h_2 => cases hq
  rename_i tops cs hback
  split at hq
  case h_2 => cases hq
  rename_i S1 hS1
  split at hq
  case h_2 => cases hq
  rename_i r2 hr2
  split at hq
  case isTrue => cases hq
  rename_i hnd
  split at hq
  case h_2 => cases hq
  rename_i r3 hr3
  simp only [Option.some.injEq, Prod.mk.injEq] at hq
  obtain ⟨rfl, rfl⟩ := hq
  simp only [Bool.not_eq_true', Bool.not_eq_false, Bool.and_eq_true, decide_eq_true_eq, List.all_eq_true] at hnd
  obtain ⟨hnd, hlive⟩ := hnd
  intro next Q K
  obtain ⟨bi, hG, hT, hZ⟩ := giveL_ok h (fun _ _ h => h) hgv hvs
  let Fc : Nat → Prop := fun b => F b ∨ ∃ g ra, g ∈ refsL (rdL an1.md args) ∧ A g = some ra ∧ 0 < ra.cap ∧ b = ra.b
  obtain ⟨hvals, hthere⟩ := lend_ok (Fc := Fc) h hT.2.2 (fun b hb => .inl hb) hG hvs hts (fun g hg ra hA hcp => .inr ⟨g, ra, hg, hA, hcp, rfl⟩)
  -- what goes over is not what is lent, nor what nobody writes
  have hlent : ∀ g ∈ refsL (rdL an1.md args), ∀ ra, A g = some ra → 0 < ra.cap → ra.b ∉ bi := by
    intro g hg ra hA hcp hm
    obtain ⟨g', ra', hA', hc', hb, _, hn⟩ := hT.2.1 _ hm
    have hne : g' ≠ g := fun e => by subst e; exact hthere _ hg hn
    exact h.sep g' g ra' ra hA' hA hne hc' hcp hb
  have hbi : ∀ b ∈ bi, ¬ F b ∧ b < w.heap.size ∧ (b < w0.heap.size → Pb b) := by
    intro b hb
    obtain ⟨g, ra, hA, hcp, rfl, _⟩ := hT.2.1 b hb
    obtain ⟨n1, n2, n3⟩ := h.nw g ra hA hcp
    exact ⟨n3, n1, n2⟩
  have hFcb : ∀ b ∈ bi, ¬ Fc b ∧ b < w.heap.size := by
    intro b hb
    refine ⟨?_, (hbi b hb).2.1⟩
    rintro (hf | ⟨g, ra, hg, hA, hcp, rfl⟩)
    · exact (hbi b hb).1 hf
    · exact hlent g hg ra hA hcp hb
  have hFc : ∀ b, Fc b → b < w.heap.size := by
    rintro b (hb | ⟨g, ra, _, hA, hcp, rfl⟩)
    · exact (h.fo b hb).1
    · exact (h.nw g ra hA hcp).1
  obtain ⟨hfn, hcalls⟩ := hc f ts res outs hcall w Fc vals bi hvals hT.1 hFcb hFc
  unfold Oper.wp
  have hex : (execOp a.eval o).run P w = .ok (.enter f vals.toArray) w := hexec.trans (callFunc_run hfn)
  rw [hex, Oper.upon_enter]
  refine hcalls.mono ?_
  rintro e w' ⟨v, rfl, F', bs, bo, hbel, hro, hrb, hnd0, hbs0, hF0'⟩
  simp only
  -- what is left here
  obtain ⟨F1, A1, hI1, hF1, hg1, hA1, hup⟩ := (h.dropIf fun g => gaveN S.r gv.2 g && !tops.contains g).freezeLB hS1
  have hA1' : ∀ k rb, A1 k = some rb → A k = some rb ∧ (gaveN S.r gv.2 k = true → k ∈ tops) := by
    intro k rb hk
    have := hA1 k rb hk
    unfold gone at this
    split at this
    · cases this
    · rename_i hp
      refine ⟨this, fun hg => ?_⟩
      simp only [hg, Bool.true_and, Bool.not_eq_true', Bool.not_eq_false, List.contains_iff_mem] at hp
      exact hp
  have hF1b : ∀ b ∈ bi, ¬ F1 b := by
    intro b hb hf
    rcases hup b hf with hf | ⟨g, hg, ra, hA, hcp, rfl⟩
    · exact (hbi b hb).1 hf
    · have hA' : A g = some ra := by unfold gone at hA; split at hA; cases hA; exact hA
      have hg' : g ∈ refsL (rdL an1.md args) := by
        split at hg
        · simp at hg
        · exact hg
      exact hlent g hg' ra hA' hcp hb
  have hnot : ∀ k ra, A1 k = some ra → 0 < ra.cap → k ∉ tops → ra.b ∉ bi := by
    intro k ra hk hcp hkt hm
    obtain ⟨hk1, hk2⟩ := hA1' k ra hk
    obtain ⟨g', ra', hA', hc', hb, hs', hn⟩ := hT.2.1 _ hm
    have hne : g' ≠ k := fun e => by subst e; exact hkt (hk2 (by simp [gaveN, hs', hn]))
    exact h.sep g' k ra' ra hA' hk1 hne hc' hcp hb
  obtain ⟨bt, bn, htops, hcnt⟩ := backL_ok h hback hvs hrb hZ
  have hAT : ∀ g ∈ tops, ∀ ra, A g = some ra → A1 g = some ra := by
    intro g hg ra hA
    obtain ⟨z, hz⟩ := Option.isSome_iff_exists.1 (hlive g hg)
    obtain ⟨rb, c, hk, _⟩ := hI1.rv g z hz
    have := (hA1' g rb hk).1
    rw [hA] at this; cases this
    exact hk
  have hndA : (bs ++ (bt ++ bn)).Nodup := by
    rw [List.nodup_iff_count] at hnd0 ⊢
    intro a
    have h1 := hnd0 a
    have h2 := hcnt a
    simp only [List.count_append] at h1 h2 ⊢
    omega
  have hmem : ∀ b ∈ bs ++ (bt ++ bn), ¬ F' b ∧ b < w'.heap.size ∧ (b < w.heap.size → b ∈ bi) := by
    intro b hb
    refine hbs0 b ?_
    rcases List.mem_append.1 hb with hb | hb
    · exact List.mem_append.2 (.inl hb)
    · refine List.mem_append.2 (.inr ?_)
      have h2 := hcnt b
      have h3 := List.count_pos_iff.2 hb
      exact List.count_pos_iff.1 (by omega)
  have fin : ∀ F2 : Nat → Prop, (∀ b, F1 b → F2 b) → RoV w' F2 res v bs → TopsOk w' F2 A1 bi tops cs bt bn → (∀ b ∈ bs ++ (bt ++ bn), ¬ F2 b) → (∀ b, F2 b → F1 b ∨ (w.heap.size ≤ b ∧ b < w'.heap.size) ∨ (b ∈ bi ∧ b < w'.heap.size)) → next (a.put o.dst v) w' := by
    intro F2 hF12 hro2 htops2 hnF2 hF2
    have hgt : ∀ k ra, gone A1 (fun g => tops.contains g) k = some ra → A1 k = some ra ∧ k ∉ tops := by
      intro k ra hk
      unfold gone at hk
      split at hk
      · cases hk
      · rename_i hp; exact ⟨hk, by simpa using hp⟩
    have hSt := (hI1.dropIf (fun g => tops.contains g)).other hbel hF1b (fun b hb => (hbi b hb).2.2) (fun g ra hg hcp => hnot g ra (hgt g ra hg).1 hcp (hgt g ra hg).2)
    have hSt2 := hSt.moreF hF12 (by
      intro b hb
      rcases hF2 b hb with hb | ⟨h1, h2⟩ | ⟨h1, h2⟩
      · exact ⟨(hSt.fo b hb).1, (hSt.fo b hb).2, fun g ra hg hcp e => (hSt.nw g ra hg hcp).2.2 (e ▸ hb)⟩
      · refine ⟨h2, fun h3 => ?_, fun g ra hg hcp e => ?_⟩
        · exfalso; have := h.size; omega
        · have := (hI1.nw g ra (hgt g ra hg).1 hcp).1; omega
      · exact ⟨h2, fun h3 => .inr ((hbi b h1).2.2 h3), fun g ra hg hcp e => hnot g ra (hgt g ra hg).1 hcp (hgt g ra hg).2 (e ▸ h1)⟩)
    obtain ⟨r2', ha', hk⟩ := addR_two (r' := (dropIf S1 (fun g => tops.contains g)).r) hr2 (by
      intro g hg
      simp only [EV.dropIf]
      split
      · rfl
      · simp [hg])
    rw [addR_append] at ha'
    obtain ⟨ra1, ha1, ha2⟩ := Option.bind_eq_some_iff.1 ha'
    have hfree : Free w0 Pb F2 w' (gone A1 (fun g => tops.contains g)) (bs ++ bn) := by
      refine ⟨?_, fun b hb => ?_⟩
      · rw [List.nodup_iff_count] at hndA ⊢
        intro a
        have h1 := hndA a
        simp only [List.count_append] at h1 ⊢
        omega
      · have hb' : b ∈ bs ++ (bt ++ bn) := by
          rcases List.mem_append.1 hb with hb | hb
          · exact List.mem_append.2 (.inl hb)
          · exact List.mem_append.2 (.inr (List.mem_append.2 (.inr hb)))
        obtain ⟨m1, m2, m3⟩ := hmem b hb'
        refine ⟨hnF2 b hb', m2, fun h3 => (hbi b (m3 (by have := h.size; omega))).2.2 h3, fun k rb hk hcp e => ?_⟩
        have hlt := (hI1.nw k rb (hgt k rb hk).1 hcp).1
        exact hnot k rb (hgt k rb hk).1 hcp (hgt k rb hk).2 (by rw [e]; exact m3 (by omega))
    have hpn : ∀ (g : Nat) (ra : RA), g < nlim → nlim ≤ g → Pb.pin g ra := fun g ra h1 h2 => absurd h1 (by omega)
    obtain ⟨A2a, hI2a, hs2a, hv2a, hn2a⟩ := impV_ok hpn hSt2 hro2 hfree.left ha1
    obtain ⟨A2, hI2, hs2, htc, hn2⟩ := impT_ok hpn hI2a htops2 (hfree.right hn2a) ha2
    have heach := htops2.each
    obtain ⟨hfin, hsub3⟩ := Inv.untop (r2 := r2) (r3 := r3) (nb := fun b => b ∈ bs ∨ b ∈ bn) hI1 hbel hF1b hnot hI2 hF12
      (fun k ra hkt hk => hs2 k ra (hs2a k ra (by simp [gone, hkt, hk])))
      (fun k ra hk hcp => by
        rcases hn2 k ra hk hcp with hk | hk
        · rcases hn2a k ra hk hcp with hk | hk
          · exact .inl (hgt k ra hk)
          · exact .inr (.inl hk)
        · exact .inr (.inr hk))
      (fun k hkt => by
        rcases hk k with ⟨_, e⟩ | ⟨e, _⟩
        · show r2' k = none
          rw [e]
          simp [EV.dropIf, hkt]
        · have := hlive k hkt
          rw [e] at this; cases this)
      (fun g hg ra hA hcp => by
        obtain ⟨ra', hA', hcase⟩ := heach g hg
        rw [hA] at hA'; cases hA'
        rcases hcase with hb | hb
        · rintro (h1 | h1)
          · exact (List.nodup_append.1 hndA).2.2 _ h1 _ (List.mem_append.2 (.inl hb)) rfl
          · exact (List.nodup_append.1 (List.nodup_append.1 hndA).2.1).2.2 _ hb _ h1 rfl
        · have hlt := (hI1.nw g ra hA hcp).1
          rintro (h1 | h1)
          · exact hb hcp ((hmem _ (List.mem_append.2 (.inl h1))).2.2 hlt)
          · exact hb hcp ((hmem _ (List.mem_append.2 (.inr (List.mem_append.2 (.inr h1))))).2.2 hlt))
      (fun g hg ra hA hcp => by
        obtain ⟨ra', hA', hcase⟩ := heach g hg
        rw [hA] at hA'; cases hA'
        rcases hcase with hb | hb
        · exact hnF2 _ (List.mem_append.2 (.inr (List.mem_append.2 (.inl hb))))
        · intro hf
          obtain ⟨n1, n2, n3⟩ := hI1.nw g ra hA hcp
          rcases hF2 _ hf with h1 | ⟨h1, _⟩ | ⟨h1, _⟩
          · exact n3 h1
          · omega
          · exact hb hcp h1)
      hnd htc hr3
      (fun k hkt => by
        rcases hk k with ⟨e, _⟩ | ⟨e1, e2, _⟩
        · exact .inl e
        · exact .inr ⟨e1, e2⟩)
      (fun k hkt hn => by
        rcases hk k with ⟨e1, e2⟩ | ⟨_, _, e⟩
        · show r2' k = none
          rw [e2]
          rw [hn] at e1
          simp only [EV.dropIf]
          split
          · rfl
          · simp [← e1]
        · rw [hn] at e; cases e)
      (fun k hkt => by
        rcases hk k with ⟨e, _⟩ | ⟨e, _⟩
        · exact e
        · have := hlive k hkt
          rw [e] at this; cases this)
    exact K v w' F2 _ hfin (hv2a.mono (fun _ h => h) (fun _ _ => rfl) (fun k rb hk => hsub3 k rb (hs2 k rb hk)))
  by_cases hflat : (!an1.hold && res.flat && flatL cs) = true
  · simp only [Bool.and_eq_true] at hflat
    refine fin F1 (fun _ h => h) (roV_flat hflat.1.2 hro) (htops.imp hAT (fun c hc cv n hr => ro_flat (flatL_mem hflat.2 c hc) hr)) (fun b hb hf => ?_) (fun b hb => .inl hb)
    obtain ⟨m1, m2, m3⟩ := hmem b hb
    exact hF1b b (m3 (hI1.fo b hf).1) hf
  · refine fin (fun b => F1 b ∨ F' b) (fun b hb => .inl hb) (roV_mono (fun b hb => .inr hb) hro) (htops.imp hAT (fun c hc cv n hr => ro_mono (fun b hb => .inr hb) hr)) (fun b hb hf => ?_) (fun b hb => ?_)
    · obtain ⟨m1, m2, m3⟩ := hmem b hb
      rcases hf with hf | hf
      · exact hF1b b (m3 (hI1.fo b hf).1) hf
      · exact m1 hf
    · rcases hb with hb | hb
      · exact .inl hb
      · obtain ⟨h1, h2⟩ := hF0' b hb
        rcases Nat.lt_or_ge b w.heap.size with hlt | hge
        · rcases h2 hlt with (hf | ⟨g, ra, hg, hA, hcp, rfl⟩) | hf
          · exact .inl (hF1 b hf)
          · refine .inl (hg1 g (by rw [if_neg hflat]; exact hg) ra ?_ hcp)
            have hng : gaveN S.r gv.2 g = false := by
              have := hthere g hg
              cases hh : gv.2 g with
              | none => exact absurd hh this
              | some z => simp [gaveN, hh]
            simp [gone, hng, hA]
          · exact .inr (.inr ⟨hf, h1⟩)
        · exact .inr (.inl ⟨hge, h1⟩)
end
end Go.EV
