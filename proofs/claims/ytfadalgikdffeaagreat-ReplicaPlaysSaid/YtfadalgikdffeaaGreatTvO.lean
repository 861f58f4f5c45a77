/- What goes over to a call, on typed values. -/
import Derived.Test.YtfadalgikdffeaaGreatTv6
set_option linter.unusedVariables false
set_option linter.unusedSimpArgs false
namespace Go.EV
open Go.RowKit
/-- What goes over loses its names. -/
def owT (d : Nat) (τ : Ty) (r : Nat → Option TX) : TX → Option (Bool × List τ.den × (Nat → Option TX))
  | .emp true => some (true, [], r)
  | .hw g => match r g with
    | some (.ar d' σ c) => if d' = d then (match asTy σ c τ with
      | some us => some (true, us, upd r g none)
      | none => none) else none
    | _ => none
  | .hd g lo len _ => match r g with
    | some (.ar d' σ c) => if d' = d then (match asTy σ c τ with
      | some us => some (true, (List.drop lo us).take len, upd r g none)
      | none => none) else none
    | _ => none
  | _ => none
theorem rX_none (r : Nat → Option TX) (g : Nat) : rX (upd r g none) = upd (rX r) g none := by
  funext v; simp only [rX, upd]; split <;> rfl
theorem owT_ok {d : Nat} {τ : Ty} {r r' : Nat → Option TX} {x : TX} {us : List τ.den} {deep : (Nat → Option X) → X → Option (X × (Nat → Option X))} (h : owT d τ r x = some (true, us, r')) : ∃ y, reiX deep (rX r) x.x = some (y, rX r') ∧ cvR (.ow d τ) y = .ow d (us.map (embX τ)) := by
  unfold owT at h
  split at h
  · cases h
    exact ⟨.sl true [], by simp [TX.x, reiX], by simp [cvR]⟩
  · rename_i g
    split at h
    · rename_i d' σ c hg
      split at h
      · rename_i hd
        split at h
        · rename_i us' hu
          cases h
          have hg' : rX r g = some (.ar d' (c.map (embX σ))) := by simp [rX, hg, TX.x]
          refine ⟨_, by simp only [TX.x, reiX, hg', rX_none]; rfl, ?_⟩
          rw [hd, (asTy_ok hu).1]
          rfl
        · cases h
      · cases h
    · cases h
  · rename_i g lo len f
    split at h
    · rename_i d' σ c hg
      split at h
      · rename_i hd
        split at h
        · rename_i us' hu
          cases h
          have hg' : rX r g = some (.ar d' (c.map (embX σ))) := by simp [rX, hg, TX.x]
          refine ⟨_, by simp only [TX.x, reiX, hg', rX_none]; rfl, ?_⟩
          rw [hd, (asTy_ok hu).1, List.map_take, List.map_drop]
          rfl
        · cases h
      · cases h
    · cases h
  · cases h
mutual
theorem reiX_fz {deep : (Nat → Option X) → X → Option (X × (Nat → Option X))} {r : Nat → Option X} : ∀ {x : X}, x.fz = true → reiX deep r x = some (x, r)
  | .ag xs, h => by simp only [reiX, reiL_fz (by simpa [X.fz] using h : fzL xs = true), Option.map_some]
  | .b v, h | .i k n, h | .s l, h | .ar d xs, h | .sl f xs, h | .np, h | .pf x, h | .nm, h | .nf, h => by simp [reiX]
  | .bot, h | .tup _, h | .hw _, h | .hd _ _ _ _, h | .pt _ _ _, h | .fn _ _, h | .ow _ _, h | .ob _, h => by simp [X.fz] at h
theorem reiL_fz {deep : (Nat → Option X) → X → Option (X × (Nat → Option X))} {r : Nat → Option X} : ∀ {xs : List X}, fzL xs = true → reiL deep r xs = some (xs, r)
  | [], h => rfl
  | x :: xs, h => by
    simp only [fzL, Bool.and_eq_true] at h
    simp only [reiL, reiX_fz h.1, reiL_fz h.2, Option.map_some]
end
def tyT (τ : Ty) (r : Nat → Option TX) (x : TX) : Option (Bool × τ.den × (Nat → Option TX)) :=
  if x.fz then (match unemb τ x.wk with
    | some (c, v) => some (c, v, r)
    | none => none) else none
theorem tyT_ok {τ : Ty} {r r' : Nat → Option TX} {x : TX} {v : τ.den} {deep : (Nat → Option X) → X → Option (X × (Nat → Option X))} (h : tyT τ r x = some (true, v, r')) : ∃ y, reiX deep (rX r) x.x = some (y, rX r') ∧ cvR (.ty τ) y = embX τ v := by
  unfold tyT at h
  split at h
  · rename_i hz
    split at h
    · rename_i c u hu
      cases h
      refine ⟨x.x, reiX_fz (by rw [fz_x]; exact hz), ?_⟩
      rw [← unemb_ok τ _ _ hu, wk_x]
      rfl
    · cases h
  · cases h
def npT (r : Nat → Option TX) : TX → Option (Bool × Unit × (Nat → Option TX))
  | .np => some (true, (), r)
  | _ => none
def pairT {A B : Type} (q : Option (Bool × A × (Nat → Option TX))) (p : (Nat → Option TX) → Option (Bool × B × (Nat → Option TX))) : Option (Bool × (A × B) × (Nat → Option TX)) :=
  match q with
  | some (c, u, r) => match p r with
    | some (c', v, r') => some (c && c', (u, v), r')
    | none => none
  | none => none
theorem pairT_ok {A B : Type} {q : Option (Bool × A × (Nat → Option TX))} {p : (Nat → Option TX) → Option (Bool × B × (Nat → Option TX))} {v : A × B} {r' : Nat → Option TX} (h : pairT q p = some (true, v, r')) : ∃ r, q = some (true, v.1, r) ∧ p r = some (true, v.2, r') := by
  cases q with
  | none => simp [pairT] at h
  | some z =>
    obtain ⟨c, u, r⟩ := z
    simp only [pairT] at h
    cases hp : p r with
    | none => rw [hp] at h; cases h
    | some y =>
      obtain ⟨c', u', r1⟩ := y
      rw [hp] at h
      simp only [Option.some.injEq, Prod.mk.injEq, Bool.and_eq_true] at h
      obtain ⟨⟨rfl, rfl⟩, rfl, rfl⟩ := h
      exact ⟨r, rfl, hp⟩
def ptnT {A : Type} (f : (Nat → Option TX) → TX → Option (Bool × A × (Nat → Option TX))) (r : Nat → Option TX) (x : TX) : Option (Bool × Option A × (Nat → Option TX)) :=
  match x with
  | .np => some (true, none, r)
  | .pt g [] => match r g with
    | some y => if 0 < y.size ∧ arEq .np y = true then (match f (upd r g none) y with
      | some (c, v, r') => some (c, some v, r')
      | none => none) else none
    | none => none
  | _ => none
theorem ptnT_get {A : Type} {f : (Nat → Option TX) → TX → Option (Bool × A × (Nat → Option TX))} {r r' : Nat → Option TX} {x : TX} {v : Option A} (h : ptnT f r x = some (true, v, r')) : (x = .np ∧ v = none ∧ r' = r) ∨ ∃ g y u, x = .pt g [] ∧ v = some u ∧ r g = some y ∧ (0 < y.size ∧ arEq .np y = true) ∧ f (upd r g none) y = some (true, u, r') := by
  unfold ptnT at h
  split at h
  · cases h; exact .inl ⟨rfl, rfl, rfl⟩
  · rename_i g
    split at h
    · rename_i y hg
      split at h
      · rename_i hh
        split at h
        · rename_i c u r1 hf
          cases h
          exact .inr ⟨g, y, u, rfl, rfl, hg, hh, hf⟩
        · cases h
      · cases h
    · cases h
  · cases h
def obT {A : Type} (f : (Nat → Option TX) → TX → Option (Bool × A × (Nat → Option TX))) (r : Nat → Option TX) (x : TX) : Option (Bool × A × (Nat → Option TX)) :=
  match x with
  | .pt g [] => match r g with
    | some y => if 0 < y.size ∧ arEq .np y = true then f (upd r g none) y else none
    | none => none
  | _ => none
theorem obT_get {A : Type} {f : (Nat → Option TX) → TX → Option (Bool × A × (Nat → Option TX))} {r r' : Nat → Option TX} {x : TX} {v : A} (h : obT f r x = some (true, v, r')) : ∃ g y, x = .pt g [] ∧ r g = some y ∧ (0 < y.size ∧ arEq .np y = true) ∧ f (upd r g none) y = some (true, v, r') := by
  unfold obT at h
  split at h
  · split at h
    · rename_i y hg
      split at h
      · rename_i hh
        exact ⟨_, y, rfl, hg, hh, h⟩
      · cases h
    · cases h
  · cases h
mutual
def outT : Nat → (s : RSh) → (Nat → Option TX) → TX → Option (Bool × s.den × (Nat → Option TX))
  | _, .ty τ, r, x => tyT τ r x
  | _, .ow d τ, r, x => owT d τ r x
  | n, .ag c, r, x => match agOf x with
    | some xs => outTC n c r xs
    | none => none
  | _, .tup _, _, _ => none
  | _, .pr _ _, _, _ => none
  | 0, .ob _, _, _ => none
  | n + 1, .ob s, r, x => obT (fun r y => outT n s r y) r x
  | 0, .opt _, _, _ => none
  | n + 1, .opt s, r, x => ptnT (fun r y => outT n s r y) r x
  | _, .np, r, x => npT r x
  | _, .un, _, _ => none
def outTC : Nat → (s : RSh) → (Nat → Option TX) → List TX → Option (Bool × s.den × (Nat → Option TX))
  | n, .pr a c, r, xs => match headT xs with
    | some (x, ys) => pairT (outT n a r x) fun r1 => outTC n c r1 ys
    | none => none
  | _, .ty τ, r, xs => match lone xs with
    | some x => tyT τ r x
    | none => none
  | _, .ow d τ, r, xs => match lone xs with
    | some x => owT d τ r x
    | none => none
  | n, .ag c, r, xs => match lone xs with
    | some x => (match agOf x with
      | some ys => outTC n c r ys
      | none => none)
    | none => none
  | _, .tup _, _, _ => none
  | 0, .ob _, _, _ => none
  | n + 1, .ob s, r, xs => match lone xs with
    | some x => obT (fun r y => outT n s r y) r x
    | none => none
  | 0, .opt _, _, _ => none
  | n + 1, .opt s, r, xs => match lone xs with
    | some x => ptnT (fun r y => outT n s r y) r x
    | none => none
  | _, .np, r, xs => match lone xs with
    | some x => npT r x
    | none => none
  | _, .un, r, xs => match xs with
    | [] => some (true, (), r)
    | _ => none
end
theorem obT_ok {n : Nat} {s : RSh} {g : Nat} {r r' : Nat → Option TX} {y : TX} {v : s.den} (hg : r g = some y) (hh : 0 < y.size ∧ arEq .np y = true) (ih : ∃ z, reiX (rei n) (rX (upd r g none)) y.x = some (z, rX r') ∧ cvR s z = embR s v) :
    ∃ z, reiX (rei (n + 1)) (rX r) (TX.pt g []).x = some (.ob z, rX r') ∧ cvR s z = embR s v := by
  obtain ⟨z, h1, h2⟩ := ih
  have hg' : rX r g = some y.x := by simp [rX, hg]
  have ha : y.x.arD = none := by
    have := arEq_ok hh.2
    simpa [TX.x, X.arD] using this.symm
  refine ⟨z, ?_, h2⟩
  simp only [TX.x, offOf, keysOf, List.map_nil, reiX, and_self, if_true, hg', ha, size_x, hh.1]
  rw [← rX_none]
  simp only [rei, h1, Option.map_some]
theorem npT_ok {r r' : Nat → Option TX} {x : TX} {v : Unit} (h : npT r x = some (true, v, r')) : x = .np ∧ r' = r := by
  cases x <;> simp [npT] at h; exact ⟨rfl, h.symm⟩
def RSh.lk : RSh → Bool
  | .ty _ | .ow _ _ | .ag _ | .ob _ | .opt _ => true
  | .tup _ | .pr _ _ | .np | .un => false
theorem cvRC_one : ∀ (s : RSh) (y : X), s.lk = true → cvRC s [y] = [cvR s y]
  | .ty _, y, _ => rfl
  | .ow d _, y, _ => by
    cases y with
    | sl f xs => cases f <;> cases xs <;> rfl
    | _ => rfl
  | .ag c, y, _ => by cases y <;> rfl
  | .ob s, y, _ => by cases y <;> rfl
  | .opt s, y, _ => by cases y <;> rfl
  | .tup _, y, h | .pr _ _, y, h | .np, y, h | .un, y, h => by simp [RSh.lk] at h
theorem cvRC_more : ∀ (s : RSh) (x y : X) (ys : List X), s.lk = true → cvRC s (x :: y :: ys) = x :: y :: ys
  | .ty _, x, y, ys, _ => rfl
  | .ow d _, x, y, ys, _ => by
    cases x with
    | sl f xs => cases f <;> cases xs <;> rfl
    | _ => rfl
  | .ag c, x, y, ys, _ => by cases x <;> rfl
  | .ob s, x, y, ys, _ => by cases x <;> rfl
  | .opt s, x, y, ys, _ => by cases x <;> rfl
  | .tup _, x, y, ys, h | .pr _ _, x, y, ys, h | .np, x, y, ys, h | .un, x, y, ys, h => by simp [RSh.lk] at h
mutual
theorem outT_cv : ∀ (n : Nat) (s : RSh) {r r' : Nat → Option TX} {x : TX} {v : s.den}, outT n s r x = some (true, v, r') → ∃ y, reiX (rei n) (rX r) x.x = some (y, rX r') ∧ cvR s y = embR s v
  | n, .ty τ, r, r', x, v, h => by simp only [outT] at h; exact tyT_ok h
  | n, .ow d τ, r, r', x, v, h => by simp only [outT] at h; exact owT_ok h
  | n, .ag c, r, r', x, v, h => by
    simp only [outT] at h
    split at h
    · rename_i xs hx
      obtain ⟨ys, h1, h2⟩ := outTC_cv n c h
      rw [agOf_ok hx]
      exact ⟨.ag ys, by simp only [reiX, h1, Option.map_some], by simp only [cvR, h2, embR]⟩
    · cases h
  | _, .tup _, r, r', x, v, h => by simp [outT] at h
  | _, .pr _ _, r, r', x, v, h => by simp [outT] at h
  | 0, .ob _, r, r', x, v, h => by simp [outT] at h
  | n + 1, .ob s, r, r', x, v, h => by
    simp only [outT] at h
    obtain ⟨g, y, rfl, hg, hh, h1⟩ := obT_get h
    obtain ⟨z, h2, h3⟩ := obT_ok hg hh (outT_cv n s h1)
    exact ⟨.ob z, h2, by simp only [cvR, h3, embR]⟩
  | 0, .opt _, r, r', x, v, h => by simp [outT] at h
  | n + 1, .opt s, r, r', x, v, h => by
    simp only [outT] at h
    rcases ptnT_get h with ⟨rfl, rfl, rfl⟩ | ⟨g, y, u, rfl, rfl, hg, hh, h1⟩
    · exact ⟨.np, by simp [TX.x, reiX], by simp [cvR, embR]⟩
    · obtain ⟨z, h2, h3⟩ := obT_ok hg hh (outT_cv n s h1)
      exact ⟨.ob z, h2, by simp only [cvR, h3, embR]⟩
  | _, .np, r, r', x, v, h => by
    simp only [outT] at h
    obtain ⟨rfl, rfl⟩ := npT_ok h
    exact ⟨.np, by simp [TX.x, reiX], rfl⟩
  | _, .un, r, r', x, v, h => by simp [outT] at h
theorem outTC_cv : ∀ (n : Nat) (s : RSh) {r r' : Nat → Option TX} {xs : List TX} {v : s.den}, outTC n s r xs = some (true, v, r') → ∃ ys, reiL (rei n) (rX r) (txL xs) = some (ys, rX r') ∧ cvRC s ys = embRC s v
  | n, .pr a c, r, r', xs, v, h => by
    simp only [outTC] at h
    split at h
    · rename_i x ys hx
      obtain ⟨r1, h1, h2⟩ := pairT_ok h
      obtain ⟨z, e1, e2⟩ := outT_cv n a h1
      obtain ⟨zs, e3, e4⟩ := outTC_cv n c h2
      rw [headT_ok hx]
      exact ⟨z :: zs, by simp only [txL, reiL, e1, e3, Option.map_some], by simp only [cvRC, e2, e4, embRC]⟩
    · cases h
  | n, .ty τ, r, r', xs, v, h => by
    simp only [outTC] at h
    split at h
    · rename_i x hx
      obtain ⟨y, h1, h2⟩ := tyT_ok (deep := rei n) h
      rw [lone_ok hx]
      exact ⟨[y], by simp only [txL, reiL, h1, Option.map_some], by rw [cvRC_one _ _ rfl, h2]; rfl⟩
    · cases h
  | n, .ow d τ, r, r', xs, v, h => by
    simp only [outTC] at h
    split at h
    · rename_i x hx
      obtain ⟨y, h1, h2⟩ := owT_ok (deep := rei n) h
      rw [lone_ok hx]
      exact ⟨[y], by simp only [txL, reiL, h1, Option.map_some], by rw [cvRC_one _ _ rfl, h2]; rfl⟩
    · cases h
  | n, .ag c, r, r', xs, v, h => by
    simp only [outTC] at h
    split at h
    · rename_i x hx
      split at h
      · rename_i ys hy
        obtain ⟨zs, h1, h2⟩ := outTC_cv n c h
        rw [lone_ok hx]
        exact ⟨[.ag zs], by simp only [txL, agOf_ok hy, reiL, reiX, h1, Option.map_some], by simp only [cvRC, h2, embRC]⟩
      · cases h
    · cases h
  | _, .tup _, r, r', xs, v, h => by simp [outTC] at h
  | 0, .ob _, r, r', xs, v, h => by simp [outTC] at h
  | n + 1, .ob s, r, r', xs, v, h => by
    simp only [outTC] at h
    split at h
    · rename_i x hx
      obtain ⟨g, y, rfl, hg, hh, h1⟩ := obT_get h
      obtain ⟨z, h1, h2⟩ := obT_ok hg hh (outT_cv n s h1)
      rw [lone_ok hx]
      exact ⟨[.ob z], by simp only [txL, reiL, h1, Option.map_some], by simp only [cvRC, h2, embRC]⟩
    · cases h
  | 0, .opt _, r, r', xs, v, h => by simp [outTC] at h
  | n + 1, .opt s, r, r', xs, v, h => by
    simp only [outTC] at h
    split at h
    · rename_i x hx
      rw [lone_ok hx]
      rcases ptnT_get h with ⟨rfl, rfl, rfl⟩ | ⟨g, y, u, rfl, rfl, hg, hh, h1⟩
      · exact ⟨[.np], by simp [txL, TX.x, reiL, reiX], by simp [cvRC, embRC]⟩
      · obtain ⟨z, h1, h2⟩ := obT_ok hg hh (outT_cv n s h1)
        exact ⟨[.ob z], by simp only [txL, reiL, h1, Option.map_some], by simp only [cvRC, h2, embRC]⟩
    · cases h
  | _, .np, r, r', xs, v, h => by
    simp only [outTC] at h
    split at h
    · rename_i x hx
      obtain ⟨rfl, rfl⟩ := npT_ok h
      rw [lone_ok hx]
      exact ⟨[.np], by simp [txL, TX.x, reiL, reiX], rfl⟩
    · cases h
  | _, .un, r, r', xs, v, h => by
    simp only [outTC] at h
    split at h
    · cases h; exact ⟨[], rfl, rfl⟩
    · cases h
end
theorem all2_roLe : ∀ (ys : List X), All2 RoLe ys ys
  | [] => .nil
  | y :: ys => .cons (RoLe.refl y) (all2_roLe ys)
theorem all2_cvC : ∀ (s : RSh) (ys : List X), All2 RoLe ys (cvRC s ys)
  | .pr a c, ys => by
    cases ys with
    | nil => exact .nil
    | cons y ys => exact .cons (roLe_cv a y) (all2_cvC c ys)
  | .ty τ, ys => by
    match ys with
    | [] => exact .nil
    | [y] => exact .cons (roLe_cv (.ty τ) y) .nil
    | _ :: _ :: _ => exact all2_roLe _
  | .ow d τ, ys => by
    match ys with
    | [] => exact .nil
    | [y] => rw [cvRC_one _ _ rfl]; exact .cons (roLe_cv (.ow d τ) y) .nil
    | _ :: _ :: _ => rw [cvRC_more _ _ _ _ rfl]; exact all2_roLe _
  | .ag c, ys => by
    match ys with
    | [] => exact .nil
    | [y] => rw [cvRC_one _ _ rfl]; exact .cons (roLe_cv (.ag c) y) .nil
    | _ :: _ :: _ => rw [cvRC_more _ _ _ _ rfl]; exact all2_roLe _
  | .ob s, ys => by
    match ys with
    | [] => exact .nil
    | [y] => rw [cvRC_one _ _ rfl]; exact .cons (roLe_cv (.ob s) y) .nil
    | _ :: _ :: _ => rw [cvRC_more _ _ _ _ rfl]; exact all2_roLe _
  | .opt s, ys => by
    match ys with
    | [] => exact .nil
    | [y] => rw [cvRC_one _ _ rfl]; exact .cons (roLe_cv (.opt s) y) .nil
    | _ :: _ :: _ => rw [cvRC_more _ _ _ _ rfl]; exact all2_roLe _
  | .tup _, ys | .np, ys | .un, ys => all2_roLe ys
theorem outT_ok (n : Nat) (s : RSh) {r r' : Nat → Option TX} {x : TX} {v : s.den} (h : outT n s r x = some (true, v, r')) : ∃ y, reiX (rei n) (rX r) x.x = some (y, rX r') ∧ RoLe y (embR s v) := by
  obtain ⟨y, h1, h2⟩ := outT_cv n s h
  exact ⟨y, h1, by rw [← h2]; exact roLe_cv s y⟩
theorem outTC_ok2 (n : Nat) (s : RSh) {r r' : Nat → Option TX} {xs : List TX} {v : s.den} (h : outTC n s r xs = some (true, v, r')) : ∃ ys, reiL (rei n) (rX r) (txL xs) = some (ys, rX r') ∧ All2 RoLe ys (embRC s v) := by
  obtain ⟨y, h1, h2⟩ := outTC_cv n s h
  exact ⟨y, h1, by rw [← h2]; exact all2_cvC s y⟩
/-! ### arguments of a call to which places go over -/
def m1den : PSh → Type
  | .f _ => TX
  | .d _ => TX
  | .p _ => TX
  | .ow s => s.den
  | .io s _ => s.den
def mden : List PSh → Type
  | [] => Unit
  | [p] => m1den p
  | p :: q :: ps => m1den p × mden (q :: ps)
def move1 : (p : PSh) → (Nat → Option TX) → TX → Option (Bool × m1den p × (Nat → Option TX))
  | .f _, r, x => some (true, x, r)
  | .d _, r, x => some (true, x, r)
  | .p _, r, x => some (true, x, r)
  | .ow s, r, x => outT 7 s r x
  | .io s _, r, x => outT 7 s r x
/-- What goes over. -/
def moveT : (ps : List PSh) → (Nat → Option TX) → List TX → Option (Bool × mden ps × (Nat → Option TX))
  | [], r, xs => match xs with
    | [] => some (true, (), r)
    | _ :: _ => none
  | [p], r, xs => match lone xs with
    | some x => move1 p r x
    | none => none
  | p :: q :: ps, r, xs => match headT xs with
    | some (x, ys) => pairT (move1 p r x) fun r1 => moveT (q :: ps) r1 ys
    | none => none
def lend1 (r : Nat → Option TX) : (p : PSh) → m1den p → Option (Bool × p1den p)
  | .f τ, x => match frzT r x with
    | some y => unP1 (.f τ) y
    | none => none
  | .d τ, x => match frzT r x with
    | some y => unP1 (.d τ) y
    | none => none
  | .p τ, x => match frzT r x with
    | some y => unP1 (.p τ) y
    | none => none
  | .ow _, v => some (true, v)
  | .io _ _, v => some (true, v)
def unPair {A B : Type} (q : Option (Bool × A)) (p : Option (Bool × B)) : Option (Bool × (A × B)) :=
  match q with
  | some (c, u) => match p with
    | some (c', v) => some (c && c', (u, v))
    | none => none
  | none => none
theorem unPair_ok {A B : Type} {q : Option (Bool × A)} {p : Option (Bool × B)} {v : A × B} (h : unPair q p = some (true, v)) : q = some (true, v.1) ∧ p = some (true, v.2) := by
  unfold unPair at h
  split at h
  · split at h
    · rename_i c u c' u'
      simp only [Option.some.injEq, Prod.mk.injEq, Bool.and_eq_true] at h
      obtain ⟨⟨rfl, rfl⟩, rfl⟩ := h
      exact ⟨rfl, rfl⟩
    · cases h
  · cases h
/-- What is read alone, with what is left. -/
def lendT (r : Nat → Option TX) : (ps : List PSh) → mden ps → Option (Bool × pden ps)
  | [], _ => some (true, ())
  | [p], v => lend1 r p v
  | p :: q :: ps, v => unPair (lend1 r p v.1) (lendT r (q :: ps) v.2)
/-- One argument. -/
theorem one_ok {p : PSh} {r r1 : Nat → Option TX} {x : TX} {m : m1den p} (h : move1 p r x = some (true, m, r1)) :
    ∃ y, (match p.md with | .rd => some (x.x, rX r) | .io | .ow => rei 8 (rX r) x.x) = some (y, rX r1) ∧ ∀ (rf : Nat → Option TX) (a : p1den p), lend1 rf p m = some (true, a) → ∃ t, (match p.md with | .rd => frz (rX rf) y | .io | .ow => some y) = some t ∧ wkP1 p t = mkP1 p a := by
  cases p with
  | d τ =>
    simp only [move1, Option.some.injEq, Prod.mk.injEq, true_and] at h
    obtain ⟨rfl, rfl⟩ := h
    refine ⟨x.x, rfl, fun rf a ha => ?_⟩
    simp only [lend1] at ha
    split at ha
    · rename_i y hy
      exact ⟨y.x, frzT_ok hy, unP1_ok ha⟩
    · cases ha
  | f τ =>
    simp only [move1, Option.some.injEq, Prod.mk.injEq, true_and] at h
    obtain ⟨rfl, rfl⟩ := h
    refine ⟨x.x, rfl, fun rf a ha => ?_⟩
    simp only [lend1] at ha
    split at ha
    · rename_i y hy
      exact ⟨y.x, frzT_ok hy, unP1_ok ha⟩
    · cases ha
  | p τ =>
    simp only [move1, Option.some.injEq, Prod.mk.injEq, true_and] at h
    obtain ⟨rfl, rfl⟩ := h
    refine ⟨x.x, rfl, fun rf a ha => ?_⟩
    simp only [lend1] at ha
    split at ha
    · rename_i y hy
      exact ⟨y.x, frzT_ok hy, unP1_ok ha⟩
    · cases ha
  | ow s =>
    obtain ⟨y, h1, h2⟩ := outT_cv 7 s h
    refine ⟨y, h1, fun rf a ha => ?_⟩
    have ha' : (show s.den from m) = a := congrArg Prod.snd (Option.some.inj ha)
    subst ha'
    exact ⟨y, rfl, h2⟩
  | io s s' =>
    obtain ⟨y, h1, h2⟩ := outT_cv 7 s h
    refine ⟨y, h1, fun rf a ha => ?_⟩
    have ha' : (show s.den from m) = a := congrArg Prod.snd (Option.some.inj ha)
    subst ha'
    exact ⟨y, rfl, h2⟩
theorem give_cons {p : PSh} {ps : List PSh} {r r1 r2 : Nat → Option X} {x y : X} {xs ys : List X} (h1 : (match p.md with | .rd => some (x, r) | .io | .ow => rei 8 r x) = some (y, r1)) (h2 : giveL (mdL ps) r1 xs = some (ys, r2)) : giveL (mdL (p :: ps)) r (x :: xs) = some (y :: ys, r2) := by
  simp only [mdL, giveL, List.headD_cons, List.tail_cons]
  cases hm : p.md with
  | rd =>
    rw [hm] at h1
    simp only [Option.some.injEq, Prod.mk.injEq] at h1
    obtain ⟨rfl, rfl⟩ := h1
    simp only [h2, Option.map_some]
  | io => rw [hm] at h1; simp only at h1; simp only [h1, h2, Option.map_some]
  | ow => rw [hm] at h1; simp only at h1; simp only [h1, h2, Option.map_some]
theorem lend_cons {p : PSh} {ps : List PSh} {r : Nat → Option X} {y t : X} {ys ts : List X} (h1 : (match p.md with | .rd => frz r y | .io | .ow => some y) = some t) (h2 : lendL (mdL ps) r ys = some ts) : lendL (mdL (p :: ps)) r (y :: ys) = some (t :: ts) := by
  simp only [mdL, lendL, List.headD_cons, List.tail_cons]
  cases hm : p.md with
  | rd => rw [hm] at h1; simp only at h1; simp only [h1, h2]
  | io => rw [hm] at h1; simp only [Option.some.injEq] at h1; subst h1; simp only [h2, Option.map_some]
  | ow => rw [hm] at h1; simp only [Option.some.injEq] at h1; subst h1; simp only [h2, Option.map_some]
theorem moveT_ok : ∀ {ps : List PSh} {r r1 : Nat → Option TX} {xs : List TX} {m : mden ps}, moveT ps r xs = some (true, m, r1) →
    ∃ ys, giveL (mdL ps) (rX r) (txL xs) = some (ys, rX r1) ∧ ∀ (rf : Nat → Option TX) (a : pden ps), lendT rf ps m = some (true, a) → ∃ ts, lendL (mdL ps) (rX rf) ys = some ts ∧ wkP ps ts = mkP ps a
  | [], r, r1, xs, m, h => by
    simp only [moveT] at h
    split at h
    · cases h
      exact ⟨[], rfl, fun rf a ha => ⟨[], rfl, rfl⟩⟩
    · cases h
  | [p], r, r1, xs, m, h => by
    simp only [moveT] at h
    split at h
    · rename_i x hx
      obtain ⟨y, h1, h2⟩ := one_ok h
      rw [lone_ok hx]
      refine ⟨[y], give_cons (ps := []) h1 rfl, fun rf a ha => ?_⟩
      obtain ⟨t, h3, h4⟩ := h2 rf a ha
      exact ⟨[t], lend_cons (ps := []) h3 rfl, by simp only [wkP, mkP, h4]⟩
    · cases h
  | p :: q :: ps, r, r1, xs, m, h => by
    simp only [moveT] at h
    split at h
    · rename_i x ys hx
      obtain ⟨rm, h1, h2⟩ := pairT_ok h
      obtain ⟨y, k1, k2⟩ := one_ok h1
      obtain ⟨zs, k3, k4⟩ := moveT_ok h2
      rw [headT_ok hx]
      refine ⟨y :: zs, give_cons k1 k3, fun rf a ha => ?_⟩
      obtain ⟨a1, a2⟩ := unPair_ok ha
      obtain ⟨t, h3, h4⟩ := k2 rf _ a1
      obtain ⟨ts, h5, h6⟩ := k4 rf _ a2
      exact ⟨t :: ts, lend_cons h3 h5, by
        have e1 : mkP (p :: q :: ps) a = mkP1 p a.1 :: mkP (q :: ps) a.2 := rfl
        have e2 : wkP (p :: q :: ps) (t :: ts) = wkP1 p t :: wkP (q :: ps) ts := rfl
        rw [e1, e2, h4, h6]⟩
    · cases h
/-- What is read alone, by its names. -/
def rdTL : List PSh → List TX → List TX
  | [], xs => xs
  | p :: ps, xs => match xs with
    | [] => []
    | x :: xs => match p.md with
      | .rd => x :: rdTL ps xs
      | .io | .ow => rdTL ps xs
theorem rdL_nil : ∀ xs : List X, rdL [] xs = xs
  | [] => rfl
  | x :: xs => by simp only [rdL, List.headD_nil, List.tail_nil, rdL_nil xs]
theorem rdTL_ok : ∀ (ps : List PSh) (xs : List TX), rdL (mdL ps) (txL xs) = txL (rdTL ps xs)
  | [], xs => rdL_nil _
  | p :: ps, [] => rfl
  | p :: ps, x :: xs => by
    simp only [mdL, txL, rdL, List.headD_cons, List.tail_cons, rdTL]
    cases p.md with
    | rd => simp only [txL, rdTL_ok ps xs]
    | io => exact rdTL_ok ps xs
    | ow => exact rdTL_ok ps xs
def topT : TX → Option Nat
  | .pt g [] => some g
  | .hw g => some g
  | _ => none
theorem topT_ok {x : TX} {g : Nat} (h : topT x = some g) : topOf x.x = some g := by
  unfold topT at h
  split at h
  · cases h; rfl
  · cases h; rfl
  · cases h
def contR (nm : Nat → Nat) : (s : RSh) → s.den → Nat → Option (TX × List (Nat × TX) × Nat)
  | .ob s, v, j => some (impR nm s v j)
  | .ow d τ, v, j => some (.ar d τ v, [], j)
  | .ty _, _, _ | .ag _, _, _ | .tup _, _, _ | .pr _ _, _, _ | .opt _, _, _ | .np, _, _ | .un, _, _ => none
theorem contR_ok {nm : Nat → Nat} {s : RSh} {v : s.den} {j : Nat} {q : TX × List (Nat × TX) × Nat} (h : contR nm s v j = some q) : ∃ c, contX (embR s v) = some c ∧ imp nm j c = (q.1.x, newsX q.2.1, q.2.2) ∧ (s.flat = true → c.flat = true) := by
  cases s with
  | ob s =>
    simp only [contR, Option.some.injEq] at h
    subst h
    exact ⟨embR s v, rfl, impR_ok nm s v j, fun hf => embR_flat s v hf⟩
  | ow d τ =>
    simp only [contR, Option.some.injEq] at h
    subst h
    refine ⟨.ar d (List.map (embX τ) v), rfl, by simp [imp, TX.x, newsX], fun hf => ?_⟩
    have := embR_flat (.ow d τ) v hf
    simpa only [embR, X.flat] using this
  | ty τ => simp [contR] at h
  | ag c => simp [contR] at h
  | tup c => simp [contR] at h
  | pr a c => simp [contR] at h
  | opt s => simp [contR] at h
  | np => simp [contR] at h
  | un => simp [contR] at h
/-- The places that come back, what they hold, what is in them. -/
def backT (nm : Nat → Nat) : (ps : List PSh) → List TX → oden (osOf ps) → Nat → Option (List Nat × List TX × List (Nat × TX))
  | [], xs, _, _ => match xs with
    | [] => some ([], [], [])
    | _ :: _ => none
  | .io _ s' :: ps, xs, v, j => match xs with
    | x :: xs => match topT x, contR nm s' (oHead (osOf ps) v) j with
      | some g, some (y, n, j') => match backT nm ps xs (oTail (osOf ps) v) j' with
        | some (gs, ys, ns) => some (g :: gs, y :: ys, n ++ ns)
        | none => none
      | _, _ => none
    | [] => none
  | .d _ :: ps, xs, v, j => match xs with
    | _ :: xs => backT nm ps xs v j
    | [] => none
  | .f _ :: ps, xs, v, j => match xs with
    | _ :: xs => backT nm ps xs v j
    | [] => none
  | .p _ :: ps, xs, v, j => match xs with
    | _ :: xs => backT nm ps xs v j
    | [] => none
  | .ow _ :: ps, xs, v, j => match xs with
    | _ :: xs => backT nm ps xs v j
    | [] => none
theorem backT_ok {nm : Nat → Nat} : ∀ {ps : List PSh} {xs : List TX} {v : oden (osOf ps)} {j : Nat} {gs : List Nat} {ys : List TX} {ns : List (Nat × TX)}, backT nm ps xs v j = some (gs, ys, ns) →
    ∃ cs, backL (mdL ps) (txL xs) (outEmb ps v) = some (gs, cs) ∧ (impL nm j cs).1 = txL ys ∧ (impL nm j cs).2.1 = newsX ns ∧ ((osOf ps).all RSh.flat = true → flatL cs = true)
  | [], xs, v, j, gs, ys, ns, h => by
    simp only [backT] at h
    split at h
    · cases h
      exact ⟨[], rfl, rfl, rfl, fun _ => rfl⟩
    · cases h
  | .io s s' :: ps, xs, v, j, gs, ys, ns, h => by
    simp only [backT] at h
    split at h
    · rename_i x xs
      split at h
      · rename_i g y n j' hg hc
        split at h
        · rename_i gs' ys' ns' hb
          cases h
          obtain ⟨c, c1, c2, c3⟩ := contR_ok hc
          obtain ⟨cs, b1, b2, b3, b4⟩ := backT_ok hb
          refine ⟨c :: cs, ?_, ?_, ?_, fun hf => ?_⟩
          · simp only [mdL, PSh.md, txL, backL, List.headD_cons, List.tail_cons, outEmb, topT_ok hg, c1, b1]
          · simp only [impL, c2, txL, b2]
          · simp only [impL, c2, b3, newsX_append]
          · simp only [osOf, List.all_cons, Bool.and_eq_true] at hf
            simp only [flatL, c3 hf.1, b4 hf.2, Bool.and_self]
        · cases h
      · cases h
    · cases h
  | .d τ :: ps, xs, v, j, gs, ys, ns, h => by
    simp only [backT] at h
    split at h
    · obtain ⟨cs, b1, b2, b3, b4⟩ := backT_ok (ps := ps) h
      exact ⟨cs, by simp only [mdL, PSh.md, txL, backL, List.headD_cons, List.tail_cons, outEmb]; exact b1, b2, b3, b4⟩
    · cases h
  | .f τ :: ps, xs, v, j, gs, ys, ns, h => by
    simp only [backT] at h
    split at h
    · obtain ⟨cs, b1, b2, b3, b4⟩ := backT_ok (ps := ps) h
      exact ⟨cs, by simp only [mdL, PSh.md, txL, backL, List.headD_cons, List.tail_cons, outEmb]; exact b1, b2, b3, b4⟩
    · cases h
  | .p τ :: ps, xs, v, j, gs, ys, ns, h => by
    simp only [backT] at h
    split at h
    · obtain ⟨cs, b1, b2, b3, b4⟩ := backT_ok (ps := ps) h
      exact ⟨cs, by simp only [mdL, PSh.md, txL, backL, List.headD_cons, List.tail_cons, outEmb]; exact b1, b2, b3, b4⟩
    · cases h
  | .ow s :: ps, xs, v, j, gs, ys, ns, h => by
    simp only [backT] at h
    split at h
    · obtain ⟨cs, b1, b2, b3, b4⟩ := backT_ok (ps := ps) h
      exact ⟨cs, by simp only [mdL, PSh.md, txL, backL, List.headD_cons, List.tail_cons, outEmb]; exact b1, b2, b3, b4⟩
    · cases h
def szEq (y c : TX) : Bool :=
  match y with
  | .ar _ _ _ => true
  | y => y.size == c.size
def setTopsT (r : Nat → Option TX) : List Nat → List TX → Option (Bool × (Nat → Option TX))
  | [], _ => some (true, r)
  | g :: gs, ys => match ys with
    | y :: ys => match r g with
      | some c => match setTopsT (upd r g (some y)) gs ys with
        | some (b, r') => some (szEq y c && arEq y c && b, r')
        | none => none
      | none => none
    | [] => none
theorem setTopsT_ok : ∀ {gs : List Nat} {ys : List TX} {r r' : Nat → Option TX}, setTopsT r gs ys = some (true, r') → setTops (rX r) gs (txL ys) = some (rX r')
  | [], ys, r, r', h => by
    simp only [setTopsT, Option.some.injEq, Prod.mk.injEq, true_and] at h
    subst h; rfl
  | g :: gs, ys, r, r', h => by
    simp only [setTopsT] at h
    split at h
    · rename_i y ys
      split at h
      · rename_i c hg
        split at h
        · rename_i b r1 hs
          simp only [Option.some.injEq, Prod.mk.injEq, Bool.and_eq_true] at h
          obtain ⟨⟨⟨h1, h2⟩, rfl⟩, rfl⟩ := h
          have hg' : rX r g = some c.x := by simp [rX, hg]
          have ha := arEq_ok h2
          have hsz : y.x.size = c.x.size := by
            unfold szEq at h1
            split at h1
            · rename_i d τ vs
              cases c <;> simp [TX.x, X.arD] at ha
              simp only [TX.x, X.size, List.length_map]
              rw [ha.1, ha.2]
            · simpa [size_x] using h1
          simp only [txL, setTops, hg', hsz, ha, and_self, if_true, ← rX_upd]
          exact setTopsT_ok hs
        · cases h
      · cases h
    · cases h
end Go.EV
