/- New places; arrays that are nobody's from now on; places that are gone. -/
import Derived.Test.YtfadalgikdffeaaGreatEv9
set_option linter.unusedVariables false
set_option linter.unusedSimpArgs false
namespace Go.EV
open Go.RowKit
mutual
theorem size_kill (p : Nat → Bool) : ∀ x : X, (x.kill p).size = x.size
  | .ag xs => by simp only [X.kill, X.size]; exact sizeL_kill p xs
  | .tup xs => by simp [X.kill, X.size]
  | .fn f xs => by simp only [X.kill]; split <;> simp [X.size]
  | .hw h => by simp only [X.kill]; split <;> simp [X.size]
  | .hd h lo len f => by simp only [X.kill]; split <;> simp [X.size]
  | .pt h o q => by simp only [X.kill]; split <;> simp [X.size]
  | .b v | .i k n | .s l | .ar d xs | .sl f xs | .np | .pf x | .nm | .nf | .bot | .ow d xs | .ob x => by simp [X.kill]
theorem sizeL_kill (p : Nat → Bool) : ∀ xs : List X, sizeL (killL p xs) = sizeL xs
  | [] => rfl
  | x :: xs => by simp [killL, sizeL, size_kill p x, sizeL_kill p xs]
end
mutual
theorem size_sub (g : Nat) (c : List X) : ∀ x : X, (x.sub g c).size = x.size
  | .ag xs => by simp only [X.sub, X.size]; exact sizeL_sub g c xs
  | .tup xs => by simp [X.sub, X.size]
  | .fn f xs => by simp only [X.sub]; split <;> simp [X.size]
  | .hw h => by simp only [X.sub]; split <;> simp [X.size]
  | .hd h lo len f => by simp only [X.sub]; split <;> simp [X.size]
  | .pt h o q => by simp only [X.sub]; split <;> simp [X.size]
  | .b v | .i k n | .s l | .ar d xs | .sl f xs | .np | .pf x | .nm | .nf | .bot | .ow d xs | .ob x => by simp [X.sub]
theorem sizeL_sub (g : Nat) (c : List X) : ∀ xs : List X, sizeL (subL g c xs) = sizeL xs
  | [] => rfl
  | x :: xs => by simp [subL, sizeL, size_sub g c x, sizeL_sub g c xs]
end
theorem arD_kill (p : Nat → Bool) (x : X) : (x.kill p).arD = x.arD := by
  cases x <;> simp only [X.kill] <;> (try split) <;> rfl
theorem arD_sub (g : Nat) (c : List X) (x : X) : (x.sub g c).arD = x.arD := by
  cases x <;> simp only [X.sub] <;> (try split) <;> rfl
mutual
theorem kill_id (p : Nat → Bool) : ∀ x : X, x.refs.any p = false → x.kill p = x
  | .ag xs, h => by simp only [X.refs] at h; simp only [X.kill, killL_id p xs h]
  | .tup xs, h => by simp only [X.refs] at h; simp only [X.kill, killL_id p xs h]
  | .fn f xs, h => by simp only [X.refs] at h; simp [X.kill, h]
  | .hw k, h | .hd k _ _ _, h | .pt k _ _, h => by
    simp only [X.refs, List.any_cons, List.any_nil, Bool.or_false] at h
    simp [X.kill, h]
  | .b v, h | .i k n, h | .s l, h | .ar d xs, h | .sl f xs, h | .np, h | .pf x, h | .nm, h | .nf, h | .bot, h | .ow d xs, h | .ob x, h => by simp only [X.kill]
theorem killL_id (p : Nat → Bool) : ∀ xs : List X, (refsL xs).any p = false → killL p xs = xs
  | [], h => rfl
  | x :: xs, h => by
    simp only [refsL, List.any_append, Bool.or_eq_false_iff] at h
    simp only [killL, kill_id p x h.1, killL_id p xs h.2]
end
mutual
theorem sub_id (g : Nat) (c : List X) : ∀ x : X, x.refs.contains g = false → x.sub g c = x
  | .ag xs, h => by simp only [X.refs] at h; simp only [X.sub, subL_id g c xs h]
  | .tup xs, h => by simp only [X.refs] at h; simp only [X.sub, subL_id g c xs h]
  | .fn f xs, h => by simp only [X.refs] at h; simp only [X.sub, h]; rfl
  | .hw k, h | .hd k _ _ _, h | .pt k _ _, h => by
    have h2 : k ≠ g := by
      intro e; subst e
      simp [X.refs] at h
    simp [X.sub, h2]
  | .b v, h | .i k n, h | .s l, h | .ar d xs, h | .sl f xs, h | .np, h | .pf x, h | .nm, h | .nf, h | .bot, h | .ow d xs, h | .ob x, h => by simp only [X.sub]
theorem subL_id (g : Nat) (c : List X) : ∀ xs : List X, (refsL xs).contains g = false → subL g c xs = xs
  | [], h => rfl
  | x :: xs, h => by
    have h1 : x.refs.contains g = false := by simp [refsL] at h ⊢; exact h.1
    have h2 : (refsL xs).contains g = false := by simp [refsL] at h ⊢; exact h.2
    simp only [subL, sub_id g c x h1, subL_id g c xs h2]
end
def gone (A : Nat → Option RA) (p : Nat → Bool) : Nat → Option RA := fun g => if p g then none else A g
section
variable {w : World} {F : Nat → Prop} {A : Nat → Option RA}
mutual
theorem rc_kill {p : Nat → Bool} : ∀ {x : X} {cs : List Value}, Rc w F A x cs → Rc w F (gone A p) (x.kill p) cs
  | .ag xs, cs, h => by simp only [Rc, X.kill] at h ⊢; exact rcL_kill h
  | .bot, cs, h => by simpa only [Rc, X.kill] using h
  | .hw g, cs, h => by
    simp only [X.kill]
    split
    · simp only [Rc] at h ⊢
      obtain ⟨ra, a, c, _, rfl, _⟩ := h
      exact ⟨_, rfl, rfl⟩
    · rename_i hp
      simp only [Rc] at h ⊢
      obtain ⟨ra, a, c, h1, h2⟩ := h
      exact ⟨ra, a, c, by simp [gone, hp, h1], h2⟩
  | .hd g lo len f, cs, h => by
    simp only [X.kill]
    split
    · simp only [Rc] at h ⊢
      obtain ⟨ra, a, c, _, rfl, _⟩ := h
      exact ⟨_, rfl, rfl⟩
    · rename_i hp
      simp only [Rc] at h ⊢
      obtain ⟨ra, a, c, h1, h2⟩ := h
      exact ⟨ra, a, c, by simp [gone, hp, h1], h2⟩
  | .pt g o q, cs, h => by
    simp only [X.kill]
    split
    · simp only [Rc] at h ⊢
      obtain ⟨ra, _, _, rfl⟩ := h
      exact ⟨_, rfl, rfl⟩
    · rename_i hp
      simp only [Rc] at h ⊢
      obtain ⟨ra, h1, h2⟩ := h
      exact ⟨ra, by simp [gone, hp, h1], h2⟩
  | .fn f cap, cs, h => by
    simp only [X.kill]
    split
    · simp only [Rc] at h ⊢
      obtain ⟨c, _, _, rfl⟩ := h
      exact ⟨_, rfl, rfl⟩
    · rename_i hp
      simp only [Rc] at h ⊢
      obtain ⟨c, h1, h2⟩ := h
      have h3 := rcL_kill (p := p) h1
      rw [killL_id p cap (by simpa using hp)] at h3
      exact ⟨c, h3, h2⟩
  | .b v, cs, h | .i k n, cs, h | .s l, cs, h | .ar d xs, cs, h | .sl f xs, cs, h | .np, cs, h | .pf x, cs, h | .nm, cs, h | .nf, cs, h => by simpa only [Rc, X.kill] using h
  | .tup _, cs, h | .ow _ _, cs, h | .ob _, cs, h => by simp [Rc] at h
theorem rcL_kill {p : Nat → Bool} : ∀ {xs : List X} {cs : List Value}, RcL w F A xs cs → RcL w F (gone A p) (killL p xs) cs
  | [], cs, h => by simpa [RcL, killL] using h
  | x :: xs, cs, h => by
    simp only [RcL, killL] at h ⊢
    obtain ⟨c1, c2, rfl, h1, h2⟩ := h
    exact ⟨c1, c2, rfl, rc_kill h1, rcL_kill h2⟩
end
theorem agg_kill (p : Nat → Bool) (x : X) : (x.kill p).agg = x.agg := by
  cases x <;> simp only [X.kill] <;> (try split) <;> rfl
theorem r1_kill {p : Nat → Bool} {x : X} {v : Value} (h : R1 w F A x v) : R1 w F (gone A p) (x.kill p) v := by
  obtain ⟨cs, h1, rfl⟩ := h
  exact ⟨cs, rc_kill h1, by simp [val, agg_kill]⟩
theorem rvL_kill {p : Nat → Bool} : ∀ {xs : List X} {vs : List Value}, RvL w F A xs vs → RvL w F (gone A p) (killL p xs) vs
  | [], vs, h => by simpa [RvL, killL] using h
  | x :: xs, [], h => by simp [RvL] at h
  | x :: xs, v :: vs, h => by
    simp only [RvL, killL] at h ⊢
    exact ⟨h.1.imp (fun e => by subst e; rfl) r1_kill, rvL_kill h.2⟩
theorem rv_kill {p : Nat → Bool} {x : X} {v : Value} (h : Rv w F A x v) : Rv w F (gone A p) (x.kill p) v := by
  unfold Rv at h
  split at h
  · trivial
  · obtain ⟨vs, h1, h2⟩ := h
    exact ⟨vs, h1, rvL_kill h2⟩
  · exact (r1_kill h).rv
def addF (F : Nat → Prop) (ra : RA) : Nat → Prop := fun b => F b ∨ (0 < ra.cap ∧ b = ra.b)
/-- The array g as data that nobody writes. -/
theorem frozen_hw {g d : Nat} {c : List X} {ra : RA} (hA : A g = some ra) {cs : List Value} (hrf : RfE w F d c cs) (hd : ra.d = d) (hn : ra.n = c.length) (hown : 0 < ra.cap → Own w ra.b ra.o cs (ra.cap * ra.d)) {F' : Nat → Prop} (hF : ∀ b, F b → F' b) (hFb : 0 < ra.cap → F' ra.b) :
    (∀ u, Rc w F A (.hw g) u → Rf w F' (.sl false c) u) ∧ (∀ lo len f u, Rc w F A (.hd g lo len f) u → Rf w F' (.sl f (mid lo len c)) u) := by
  have hk : Keeps F w w := fun _ _ => rfl
  constructor
  · intro u h
    simp only [Rc] at h
    obtain ⟨rb, a, c', h1, rfl, h2, h3, h4⟩ := h
    rw [hA] at h1; cases h1
    simp only [Rf]
    refine ⟨a, c', by rw [hn], by omega, by simp, ?_⟩
    by_cases hc : c = []
    · exact .inl hc
    · have : 0 < c.length := List.length_pos_iff.2 hc
      rcases h4 with h4 | rfl
      · omega
      · exact .inr ⟨⟨ra.b, ra.o, none⟩, d, cs, rfl, rfl, hFb (by omega), rfE_mono hF hk hrf, (hown (by omega)).mem⟩
  · intro lo len f u h
    simp only [Rc] at h
    obtain ⟨rb, a, c', h1, rfl, h2, h3, h5, h6, h4⟩ := h
    rw [hA] at h1; cases h1
    simp only [Rf]
    have hl : (mid lo len c).length = len := by simp [mid]; omega
    refine ⟨a, c', by rw [hl], by omega, by rw [hl]; exact h6, ?_⟩
    by_cases hc : mid lo len c = []
    · exact .inl hc
    · have : 0 < (mid lo len c).length := List.length_pos_iff.2 hc
      rcases h4 with h4 | rfl
      · omega
      · refine .inr ⟨⟨ra.b, ra.o + lo * ra.d, none⟩, d, _, rfl, rfl, hFb (by omega), rfE_mono hF hk (rfE_mid lo len hrf), ?_⟩
        have := MemAt.sub (hown (by omega)).mem (lo * ra.d) (len * ra.d)
        rw [hd] at this ⊢
        exact this
mutual
theorem rc_sub {g d : Nat} {c : List X} {ra : RA} (hA : A g = some ra) {cs : List Value} (hrf : RfE w F d c cs) (hd : ra.d = d) (hn : ra.n = c.length) (hown : 0 < ra.cap → Own w ra.b ra.o cs (ra.cap * ra.d)) :
    ∀ {x : X} {u : List Value}, Rc w F A x u → Rc w (addF F ra) (gone A (· == g)) (x.sub g c) u
  | .ag xs, u, h => by simp only [Rc, X.sub] at h ⊢; exact rcL_sub hA hrf hd hn hown h
  | .bot, u, h => by simpa only [Rc, X.sub] using h
  | .hw k, u, h => by
    simp only [X.sub]
    split
    · rename_i e; subst e
      exact rf_rc ((frozen_hw hA hrf hd hn hown (fun b h => .inl h) (fun h => .inr ⟨h, rfl⟩)).1 u h)
    · rename_i hp
      simp only [Rc] at h ⊢
      obtain ⟨ra, a, c, h1, h2⟩ := h
      exact ⟨ra, a, c, by simp [gone, hp, h1], h2⟩
  | .hd k lo len f, u, h => by
    simp only [X.sub]
    split
    · rename_i e; subst e
      exact rf_rc ((frozen_hw hA hrf hd hn hown (fun b h => .inl h) (fun h => .inr ⟨h, rfl⟩)).2 lo len f u h)
    · rename_i hp
      simp only [Rc] at h ⊢
      obtain ⟨ra, a, c, h1, h2⟩ := h
      exact ⟨ra, a, c, by simp [gone, hp, h1], h2⟩
  | .pt k o q, u, h => by
    simp only [X.sub]
    split
    · simp only [Rc] at h ⊢
      obtain ⟨ra, _, _, rfl⟩ := h
      exact ⟨_, rfl, rfl⟩
    · rename_i hp
      simp only [Rc] at h ⊢
      obtain ⟨ra, h1, h2⟩ := h
      exact ⟨ra, by simp [gone, hp, h1], h2⟩
  | .fn f cap, u, h => by
    simp only [X.sub]
    split
    · simp only [Rc] at h ⊢
      obtain ⟨c, _, _, rfl⟩ := h
      exact ⟨_, rfl, rfl⟩
    · rename_i hp
      simp only [Rc] at h ⊢
      obtain ⟨c', h1, h2⟩ := h
      have h3 := rcL_sub hA hrf hd hn hown h1
      rw [subL_id g c cap (by simpa using hp)] at h3
      exact ⟨c', h3, h2⟩
  | .b v, u, h | .i k n, u, h | .s l, u, h | .ar d xs, u, h | .sl f xs, u, h | .np, u, h | .pf x, u, h | .nm, u, h | .nf, u, h => by
    simp only [Rc, X.sub] at h ⊢
    exact rf_mono (fun b h => .inl h) (fun _ _ => rfl) h
  | .tup _, u, h | .ow _ _, u, h | .ob _, u, h => by simp [Rc] at h
theorem rcL_sub {g d : Nat} {c : List X} {ra : RA} (hA : A g = some ra) {cs : List Value} (hrf : RfE w F d c cs) (hd : ra.d = d) (hn : ra.n = c.length) (hown : 0 < ra.cap → Own w ra.b ra.o cs (ra.cap * ra.d)) :
    ∀ {xs : List X} {u : List Value}, RcL w F A xs u → RcL w (addF F ra) (gone A (· == g)) (subL g c xs) u
  | [], u, h => by simpa [RcL, subL] using h
  | x :: xs, u, h => by
    simp only [RcL, subL] at h ⊢
    obtain ⟨c1, c2, rfl, h1, h2⟩ := h
    exact ⟨c1, c2, rfl, rc_sub hA hrf hd hn hown h1, rcL_sub hA hrf hd hn hown h2⟩
end
theorem agg_sub (g : Nat) (c : List X) (x : X) : (x.sub g c).agg = x.agg := by
  cases x <;> simp only [X.sub] <;> (try split) <;> rfl
theorem rv_sub {g d : Nat} {c : List X} {ra : RA} (hA : A g = some ra) {cs : List Value} (hrf : RfE w F d c cs) (hd : ra.d = d) (hn : ra.n = c.length) (hown : 0 < ra.cap → Own w ra.b ra.o cs (ra.cap * ra.d)) {x : X} {v : Value} (h : Rv w F A x v) :
    Rv w (addF F ra) (gone A (· == g)) (x.sub g c) v := by
  have one : ∀ {x : X} {v : Value}, R1 w F A x v → R1 w (addF F ra) (gone A (· == g)) (x.sub g c) v := by
    intro x v ⟨u, h1, h2⟩
    exact ⟨u, rc_sub hA hrf hd hn hown h1, by rw [h2]; simp [val, agg_sub]⟩
  have many : ∀ (xs : List X) (vs : List Value), RvL w F A xs vs → RvL w (addF F ra) (gone A (· == g)) (subL g c xs) vs := by
    intro xs
    induction xs with
    | nil => intro vs h; simpa [RvL, subL] using h
    | cons x xs ih =>
      intro vs h
      cases vs with
      | nil => simp [RvL] at h
      | cons v vs =>
        simp only [RvL, subL] at h ⊢
        exact ⟨h.1.imp (fun e => by subst e; rfl) one, ih vs h.2⟩
  unfold Rv at h
  split at h
  · trivial
  · obtain ⟨vs, h1, h2⟩ := h
    exact ⟨vs, h1, many _ _ h2⟩
  · exact (one h).rv
mutual
/-- What a function reads that writes nothing of it. -/
theorem frz_ok {r : Nat → Option X} (hr : Places w F A r) {F' : Nat → Prop} (hF : ∀ b, F b → F' b) : ∀ {x y : X} {cs : List Value}, frz r x = some y → (∀ g ∈ x.refs, ∀ ra, A g = some ra → 0 < ra.cap → F' ra.b) → Rc w F A x cs → Rf w F' y cs
  | .ag xs, y, cs, h, hg, hc => by
    simp only [frz] at h
    obtain ⟨ys, hys, rfl⟩ := Option.map_eq_some_iff.1 h
    simp only [Rc] at hc
    simp only [Rf]
    exact frzL_ok hr hF hys (by simpa [X.refs] using hg) hc
  | .hw g, y, cs, h, hg, hc => by
    simp only [frz] at h
    split at h
    · rename_i d c hgr
      cases h
      have hc' := hc
      simp only [Rc] at hc'
      obtain ⟨ra, _, _, hA, _⟩ := hc'
      obtain ⟨u, hrf, hd, hlen, hcap, hown⟩ := hr.ar hgr hA
      exact (frozen_hw hA hrf hd hlen hown hF (hg g (by simp [X.refs]) ra hA)).1 cs hc
    · cases h
  | .hd g lo len f, y, cs, h, hg, hc => by
    simp only [frz] at h
    split at h
    · rename_i d c hgr
      cases h
      have hc' := hc
      simp only [Rc] at hc'
      obtain ⟨ra, _, _, hA, _⟩ := hc'
      obtain ⟨u, hrf, hd, hlen, hcap, hown⟩ := hr.ar hgr hA
      exact (frozen_hw hA hrf hd hlen hown hF (hg g (by simp [X.refs]) ra hA)).2 lo len f cs hc
    · cases h
  | .b v, y, cs, h, hg, hc | .i k n, y, cs, h, hg, hc | .s l, y, cs, h, hg, hc | .ar d xs, y, cs, h, hg, hc | .sl f xs, y, cs, h, hg, hc | .np, y, cs, h, hg, hc | .pf x, y, cs, h, hg, hc | .nm, y, cs, h, hg, hc | .nf, y, cs, h, hg, hc => by
    simp only [frz, Option.some.injEq] at h
    subst h
    simp only [Rc] at hc
    exact rf_mono hF (fun _ _ => rfl) hc
  | .pt g off p, y, cs, h, hg, hc => by
    simp only [frz] at h
    obtain ⟨rfl, rfl, c, hgr, hfz, rfl⟩ := ptF_some h
    simp only [Rc] at hc
    obtain ⟨ra, hA, hcap, rfl⟩ := hc
    obtain ⟨ra', u, hA', hrc, hmem⟩ := hr.mem hgr
    rw [hA] at hA'; cases hA'
    simp only [Rf]
    exact ⟨⟨ra.b, ra.o, none⟩, u, by simp, rfl, hg g (by simp [X.refs]) ra hA hcap, rf_mono hF (fun _ _ => rfl) (rc_rf hfz hrc), hmem hcap⟩
  | .bot, y, cs, h, hg, hc | .tup _, y, cs, h, hg, hc | .fn _ _, y, cs, h, hg, hc | .ow _ _, y, cs, h, hg, hc | .ob _, y, cs, h, hg, hc => by simp [frz] at h
theorem frzL_ok {r : Nat → Option X} (hr : Places w F A r) {F' : Nat → Prop} (hF : ∀ b, F b → F' b) : ∀ {xs ys : List X} {cs : List Value}, frzL r xs = some ys → (∀ g ∈ refsL xs, ∀ ra, A g = some ra → 0 < ra.cap → F' ra.b) → RcL w F A xs cs → RfL w F' ys cs
  | [], ys, cs, h, hg, hc => by
    simp only [frzL, Option.some.injEq] at h
    subst h
    simpa [RfL, RcL] using hc
  | x :: xs, ys, cs, h, hg, hc => by
    simp only [frzL] at h
    split at h
    · rename_i y ys' h1 h2
      cases h
      simp only [RcL] at hc
      obtain ⟨c1, c2, rfl, r1, r2⟩ := hc
      simp only [RfL]
      exact ⟨c1, c2, rfl, frz_ok hr hF h1 (fun g hg' => hg g (by simp [refsL, hg'])) r1, frzL_ok hr hF h2 (fun g hg' => hg g (by simp [refsL, hg'])) r2⟩
    · cases h
end
end
section
variable {w0 : World} {F0 F : Nat → Prop} {Pb : PB} {A : Nat → Option RA} {S : St} {tm : Nat → Value} {w : World}
theorem Inv.dropIf (h : Inv w0 F0 Pb F A S tm w) (p : Nat → Bool) : Inv w0 F0 Pb F (gone A p) (dropIf S p) tm w := by
  have ga : ∀ g ra, gone A p g = some ra → p g = false ∧ A g = some ra := by
    intro g ra hg
    unfold gone at hg
    split at hg
    · cases hg
    · rename_i hp; exact ⟨by simpa using hp, hg⟩
  refine { h with tv := fun v => rv_kill (h.tv v), rv := fun g x hx => ?_, lv := fun g ra hg => ?_, sep := fun g k ra rb h1 h2 => h.sep g k ra rb (ga g ra h1).2 (ga k rb h2).2, nw := fun g ra hg => h.nw g ra (ga g ra hg).2, pin := fun g ra hg => h.pin g ra (ga g ra hg).2 }
  · simp only [EV.dropIf] at hx
    split at hx
    · cases hx
    · rename_i hp
      obtain ⟨y, hy, rfl⟩ := Option.map_eq_some_iff.1 hx
      obtain ⟨ra, c, h1, h2⟩ := h.rv g y hy
      exact ⟨ra, c, by simp [gone, hp, h1], ⟨rc_kill h2.rc, h2.cap, dimOk_congr (arD_kill p y) (size_kill p y) h2.dim, h2.own⟩⟩
  · obtain ⟨hp, hA⟩ := ga g ra hg
    obtain ⟨x, hx⟩ := h.lv g ra hA
    exact ⟨x.kill p, by simp [EV.dropIf, hp, hx]⟩
theorem Inv.freeze (h : Inv w0 F0 Pb F A S tm w) {g : Nat} {S' : St} (hf : freeze S g = some S') : ∃ ra, A g = some ra ∧ Inv w0 F0 Pb (addF F ra) (gone A (· == g)) S' tm w := by
  unfold EV.freeze at hf
  split at hf
  · rename_i d c hg
    cases hf
    obtain ⟨ra, cs0, hA, hok⟩ := h.rv g _ hg
    obtain ⟨cs, hrf, hd, hn, hcap, hown⟩ := Places.ar h.rv hg hA
    refine ⟨ra, hA, ?_⟩
    have ga : ∀ k rb, gone A (· == g) k = some rb → k ≠ g ∧ A k = some rb := by
      intro k rb hk
      unfold gone at hk
      split at hk
      · cases hk
      · rename_i hp; exact ⟨by simpa using hp, hk⟩
    refine { h with fo := fun b hb => ?_, tv := fun v => rv_sub hA hrf hd hn hown (h.tv v), rv := fun k x hx => ?_, lv := fun k rb hk => ?_, sep := fun k k' rb rc h1 h2 => h.sep k k' rb rc (ga k rb h1).2 (ga k' rc h2).2, nw := fun k rb hk hc => ?_, pin := fun k rb hk => h.pin k rb (ga k rb hk).2 }
    · rcases hb with hb | ⟨hc, rfl⟩
      · exact h.fo b hb
      · obtain ⟨n1, n2, n3⟩ := h.nw g ra hA hc
        exact ⟨n1, fun hlt => .inr (n2 hlt)⟩
    · simp only at hx
      split at hx
      · cases hx
      · rename_i hp
        obtain ⟨y, hy, rfl⟩ := Option.map_eq_some_iff.1 hx
        obtain ⟨rb, c', h1, h2⟩ := h.rv k y hy
        exact ⟨rb, c', by simp [gone, hp, h1], ⟨rc_sub hA hrf hd hn hown h2.rc, h2.cap, dimOk_congr (arD_sub g c y) (size_sub g c y) h2.dim, h2.own⟩⟩
    · obtain ⟨hp, hA'⟩ := ga k rb hk
      obtain ⟨x, hx⟩ := h.lv k rb hA'
      exact ⟨x.sub g c, by simp [hp, hx]⟩
    · obtain ⟨hp, hA'⟩ := ga k rb hk
      obtain ⟨n1, n2, n3⟩ := h.nw k rb hA' hc
      refine ⟨n1, n2, fun hh => ?_⟩
      rcases hh with hh | ⟨hc', e⟩
      · exact n3 hh
      · exact h.sep k g rb ra hA' hA hp hc hc' e
  · cases hf
end
end Go.EV
