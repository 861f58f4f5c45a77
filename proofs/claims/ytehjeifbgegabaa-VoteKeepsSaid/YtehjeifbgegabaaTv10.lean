/- A function on typed values: its parameters, its results. -/
import Derived.Test.YtehjeifbgegabaaTv9
set_option linter.unusedVariables false
set_option linter.unusedSimpArgs false
namespace Go.EV
open Go.RowKit
def mkP1T : (p : Bool × Ty) → p1den p → TX
  | (true, τ), v => .sl true τ v
  | (false, τ), v => emb τ v
def mkPT : (ps : List (Bool × Ty)) → pden ps → List TX
  | [], _ => []
  | [p], v => [mkP1T p v]
  | p :: q :: ps, v => mkP1T p v.1 :: mkPT (q :: ps) v.2
theorem mkP1T_x : ∀ (p : Bool × Ty) (v : p1den p), (mkP1T p v).x = mkP1 p v
  | (true, τ), v => rfl
  | (false, τ), v => emb_x τ v
theorem mkPT_x : ∀ (ps : List (Bool × Ty)) (v : pden ps), txL (mkPT ps v) = mkP ps v
  | [], _ => rfl
  | [p], v => congrArg (fun y => [y]) (mkP1T_x p v)
  | p :: q :: ps, v => by simp only [mkPT, mkP, txL]; rw [mkP1T_x, mkPT_x (q :: ps)]
def entryT (ps : List (Bool × Ty)) (a : pden ps) : TS := { t := fun v => (mkPT ps a).getD v .bot, r := fun _ => none }
theorem entryT_x {ps : List (Bool × Ty)} {a : pden ps} {w : World} {F : Nat → Prop} {vs : List Value} (h : All2 (fun y v => ∃ cs, Rf w F y cs ∧ v = val y cs) (mkP ps a) vs) : enter (mkP ps a) = some (entryT ps a).x := by
  unfold enter
  rw [enterX_fz 0 h]
  simp only [addR, Option.some.injEq, TS.x, entryT, St.mk.injEq]
  constructor
  · funext v
    rw [← mkPT_x]
    simp only [List.getD_eq_getElem?_getD, txL_get]
    cases (mkPT ps a)[v]? <;> simp [TX.x]
  · funext g; rfl
/-- The results, one by one. -/
def resT (T : TT) (S : TS) : List ResultVar → Option (Bool × List TX)
  | [] => some (true, [])
  | .tmp t :: l => match resT T S l with
    | some (c, xs) => some (c, S.t t :: xs)
    | none => none
  | .cell a t :: l => match ldVT T S.r t (S.t a) with
    | some (c, x) => match resT T S l with
      | some (c', xs) => some (c && c', x :: xs)
      | none => none
    | none => none
theorem resT_ok {T : TT} {S : TS} : ∀ {l : List ResultVar} {xs : List TX}, resT T S l = some (true, xs) → resX T S.x l = some (txL xs)
  | [], xs, h => by simp only [resT, Option.some.injEq, Prod.mk.injEq, true_and] at h; subst h; rfl
  | .tmp t :: l, xs, h => by
    simp only [resT] at h
    split at h
    · rename_i c ys hy
      simp only [Option.some.injEq, Prod.mk.injEq] at h
      obtain ⟨rfl, rfl⟩ := h
      simp only [resX, resT_ok hy, Option.map_some, txL]
      rfl
    · cases h
  | .cell a t :: l, xs, h => by
    simp only [resT] at h
    split at h
    · rename_i c x hx
      split at h
      · rename_i c' ys hy
        simp only [Option.some.injEq, Prod.mk.injEq, Bool.and_eq_true] at h
        obtain ⟨⟨rfl, rfl⟩, rfl⟩ := h
        have h1 : ldV T S.x.r t (S.x.t a) = some x.x := ldVT_ok hx
        simp only [resX, h1, resT_ok hy, txL]
      · cases h
    · cases h
/-! ### what goes over, read otherwise -/
def RoLe (y z : X) : Prop := (∀ w F cs bs, Ro w F y cs bs → Ro w F z cs bs) ∧ z.size = y.size ∧ z.arD = y.arD ∧ z.agg = y.agg ∧ z.isTup = y.isTup
def RoLeL (ys zs : List X) : Prop := (∀ w F cs bs, RoL w F ys cs bs → RoL w F zs cs bs) ∧ sizeL zs = sizeL ys
theorem RoLe.refl (y : X) : RoLe y y := ⟨fun _ _ _ _ h => h, rfl, rfl, rfl, rfl⟩
theorem RoLeL.nil : RoLeL [] [] := ⟨fun _ _ _ _ h => h, rfl⟩
theorem RoLeL.cons {y z : X} {ys zs : List X} (h : RoLe y z) (hs : RoLeL ys zs) : RoLeL (y :: ys) (z :: zs) := by
  refine ⟨fun w F cs bs h1 => ?_, by simp only [sizeL, h.2.1, hs.2]⟩
  simp only [RoL] at h1 ⊢
  obtain ⟨c1, c2, b1, b2, e1, e2, h2, h3⟩ := h1
  exact ⟨c1, c2, b1, b2, e1, e2, h.1 _ _ _ _ h2, hs.1 _ _ _ _ h3⟩
theorem RoLe.ag {ys zs : List X} (h : RoLeL ys zs) : RoLe (.ag ys) (.ag zs) := by
  refine ⟨fun w F cs bs h1 => ?_, by simp only [X.size, h.2], rfl, rfl, rfl⟩
  simp only [Ro] at h1 ⊢
  exact h.1 _ _ _ _ h1
theorem RoLe.ob {y z : X} (h : RoLe y z) : RoLe (.ob y) (.ob z) := by
  refine ⟨fun w F cs bs h1 => ?_, by simp [X.size], by simp [X.arD], rfl, rfl⟩
  simp only [Ro] at h1 ⊢
  obtain ⟨b, o, c, bs', e1, e2, h2, h3, h4, h5⟩ := h1
  exact ⟨b, o, c, bs', e1, e2, h.1 _ _ _ _ h2, by rw [h.2.2.1]; exact h3, by rw [h.2.1]; exact h4, by rw [h.2.1]; exact h5⟩
mutual
theorem ro_wk {w : World} {F : Nat → Prop} : ∀ {x : X} {cs : List Value} {bs : List Nat}, Ro w F x cs bs → Ro w F x.wk cs bs
  | .ag xs, cs, bs, h => by simp only [Ro, X.wk] at h ⊢; exact roL_wk h
  | .sl f xs, cs, bs, h => by
    simp only [Ro] at h
    have := rf_wk h.2
    simp only [X.wk] at this ⊢
    simp only [Ro]
    exact ⟨h.1, this⟩
  | .pf x, cs, bs, h => by
    simp only [Ro] at h
    have := rf_wk h.2
    simp only [X.wk] at this ⊢
    simp only [Ro]
    exact ⟨h.1, this⟩
  | .ob x, cs, bs, h => by
    simp only [Ro, X.wk] at h ⊢
    obtain ⟨b, o, c, bs', e1, e2, h2, h3, h4, h5⟩ := h
    exact ⟨b, o, c, bs', e1, e2, ro_wk h2, by rw [wk_arD]; exact h3, by rw [wk_size]; exact h4, by rw [wk_size]; exact h5⟩
  | .tup xs, cs, bs, h => by simp [Ro] at h
  | .b v, cs, bs, h | .i k n, cs, bs, h | .s l, cs, bs, h | .ar d xs, cs, bs, h | .np, cs, bs, h | .nm, cs, bs, h | .nf, cs, bs, h | .bot, cs, bs, h | .hw _, cs, bs, h | .hd _ _ _ _, cs, bs, h | .pt _ _ _, cs, bs, h | .fn _ _, cs, bs, h | .ow _ _, cs, bs, h => by simpa only [X.wk] using h
theorem roL_wk {w : World} {F : Nat → Prop} : ∀ {xs : List X} {cs : List Value} {bs : List Nat}, RoL w F xs cs bs → RoL w F (wkL xs) cs bs
  | [], cs, bs, h => by simpa only [RoL, wkL] using h
  | x :: xs, cs, bs, h => by
    simp only [RoL, wkL] at h ⊢
    obtain ⟨c1, c2, b1, b2, e1, e2, h2, h3⟩ := h
    exact ⟨c1, c2, b1, b2, e1, e2, ro_wk h2, roL_wk h3⟩
end
theorem RoLe.wk (x : X) : RoLe x x.wk := ⟨fun _ _ _ _ h => ro_wk h, wk_size x, wk_arD x, wk_agg x, wk_tup x⟩
theorem RoLe.void (d : Nat) : RoLe (.sl true []) (.ow d []) := by
  refine ⟨fun w F cs bs h => ?_, rfl, rfl, rfl, rfl⟩
  simp only [Ro, Rf] at h
  obtain ⟨rfl, a, c, rfl, h1, h2, _⟩ := h
  simp only [Ro]
  exact ⟨a, c, rfl, h1, .inl ⟨by simpa using h2, trivial⟩⟩
/-- What goes over loses its names. -/
def owT (d : Nat) (τ : Ty) (r : Nat → Option TX) : TX → Option (Bool × List τ.den × (Nat → Option TX))
  | .emp true => some (true, [], r)
  | .hw g => match r g with
    | some (.ar d' σ c) => if d' = d then (match asTy σ c τ with
      | some us => some (true, us, upd r g none)
      | none => none) else none
    | _ => none
  | .hd g lo len _ => match r g with
    | some (.ar d' σ c) => if d' = d then (match asTy σ c τ with
      | some us => some (true, (List.drop lo us).take len, upd r g none)
      | none => none) else none
    | _ => none
  | _ => none
theorem rX_none (r : Nat → Option TX) (g : Nat) : rX (upd r g none) = upd (rX r) g none := by
  funext v; simp only [rX, upd]; split <;> rfl
theorem owT_ok {d : Nat} {τ : Ty} {r r' : Nat → Option TX} {x : TX} {us : List τ.den} {deep : (Nat → Option X) → X → Option (X × (Nat → Option X))} (h : owT d τ r x = some (true, us, r')) : ∃ y, reiX deep (rX r) x.x = some (y, rX r') ∧ RoLe y (.ow d (us.map (embX τ))) := by
  unfold owT at h
  split at h
  · cases h
    exact ⟨.sl true [], by simp [TX.x, reiX], by simpa using RoLe.void d⟩
  · rename_i g
    split at h
    · rename_i d' σ c hg
      split at h
      · rename_i hd
        split at h
        · rename_i us' hu
          cases h
          have hg' : rX r g = some (.ar d' (c.map (embX σ))) := by simp [rX, hg, TX.x]
          refine ⟨_, by simp only [TX.x, reiX, hg', rX_none]; rfl, ?_⟩
          rw [hd, (asTy_ok hu).1]
          exact RoLe.refl _
        · cases h
      · cases h
    · cases h
  · rename_i g lo len f
    split at h
    · rename_i d' σ c hg
      split at h
      · rename_i hd
        split at h
        · rename_i us' hu
          cases h
          have hg' : rX r g = some (.ar d' (c.map (embX σ))) := by simp [rX, hg, TX.x]
          refine ⟨_, by simp only [TX.x, reiX, hg', rX_none]; rfl, ?_⟩
          rw [hd, (asTy_ok hu).1, List.map_take, List.map_drop]
          exact RoLe.refl _
        · cases h
      · cases h
    · cases h
  · cases h
mutual
theorem reiX_fz {deep : (Nat → Option X) → X → Option (X × (Nat → Option X))} {r : Nat → Option X} : ∀ {x : X}, x.fz = true → reiX deep r x = some (x, r)
  | .ag xs, h => by simp only [reiX, reiL_fz (by simpa [X.fz] using h : fzL xs = true), Option.map_some]
  | .b v, h | .i k n, h | .s l, h | .ar d xs, h | .sl f xs, h | .np, h | .pf x, h | .nm, h | .nf, h => by simp [reiX]
  | .bot, h | .tup _, h | .hw _, h | .hd _ _ _ _, h | .pt _ _ _, h | .fn _ _, h | .ow _ _, h | .ob _, h => by simp [X.fz] at h
theorem reiL_fz {deep : (Nat → Option X) → X → Option (X × (Nat → Option X))} {r : Nat → Option X} : ∀ {xs : List X}, fzL xs = true → reiL deep r xs = some (xs, r)
  | [], h => rfl
  | x :: xs, h => by
    simp only [fzL, Bool.and_eq_true] at h
    simp only [reiL, reiX_fz h.1, reiL_fz h.2, Option.map_some]
end
def tyT (τ : Ty) (r : Nat → Option TX) (x : TX) : Option (Bool × τ.den × (Nat → Option TX)) :=
  if x.fz then (match unemb τ x.wk with
    | some (c, v) => some (c, v, r)
    | none => none) else none
theorem tyT_ok {τ : Ty} {r r' : Nat → Option TX} {x : TX} {v : τ.den} {deep : (Nat → Option X) → X → Option (X × (Nat → Option X))} (h : tyT τ r x = some (true, v, r')) : ∃ y, reiX deep (rX r) x.x = some (y, rX r') ∧ RoLe y (embX τ v) := by
  unfold tyT at h
  split at h
  · rename_i hz
    split at h
    · rename_i c u hu
      cases h
      refine ⟨x.x, reiX_fz (by rw [fz_x]; exact hz), ?_⟩
      rw [← unemb_ok τ _ _ hu, wk_x]
      exact RoLe.wk _
    · cases h
  · cases h
def npT (r : Nat → Option TX) : TX → Option (Bool × Unit × (Nat → Option TX))
  | .np => some (true, (), r)
  | _ => none
def pairT {A B : Type} (q : Option (Bool × A × (Nat → Option TX))) (p : (Nat → Option TX) → Option (Bool × B × (Nat → Option TX))) : Option (Bool × (A × B) × (Nat → Option TX)) :=
  match q with
  | some (c, u, r) => match p r with
    | some (c', v, r') => some (c && c', (u, v), r')
    | none => none
  | none => none
theorem pairT_ok {A B : Type} {q : Option (Bool × A × (Nat → Option TX))} {p : (Nat → Option TX) → Option (Bool × B × (Nat → Option TX))} {v : A × B} {r' : Nat → Option TX} (h : pairT q p = some (true, v, r')) : ∃ r, q = some (true, v.1, r) ∧ p r = some (true, v.2, r') := by
  cases q with
  | none => simp [pairT] at h
  | some z =>
    obtain ⟨c, u, r⟩ := z
    simp only [pairT] at h
    cases hp : p r with
    | none => rw [hp] at h; cases h
    | some y =>
      obtain ⟨c', u', r1⟩ := y
      rw [hp] at h
      simp only [Option.some.injEq, Prod.mk.injEq, Bool.and_eq_true] at h
      obtain ⟨⟨rfl, rfl⟩, rfl, rfl⟩ := h
      exact ⟨r, rfl, hp⟩
def obT {A : Type} (f : (Nat → Option TX) → TX → Option (Bool × A × (Nat → Option TX))) (r : Nat → Option TX) (x : TX) : Option (Bool × A × (Nat → Option TX)) :=
  match x with
  | .pt g [] => match r g with
    | some y => if 0 < y.size ∧ arEq .np y = true then f (upd r g none) y else none
    | none => none
  | _ => none
theorem obT_get {A : Type} {f : (Nat → Option TX) → TX → Option (Bool × A × (Nat → Option TX))} {r r' : Nat → Option TX} {x : TX} {v : A} (h : obT f r x = some (true, v, r')) : ∃ g y, x = .pt g [] ∧ r g = some y ∧ (0 < y.size ∧ arEq .np y = true) ∧ f (upd r g none) y = some (true, v, r') := by
  unfold obT at h
  split at h
  · split at h
    · rename_i y hg
      split at h
      · rename_i hh
        exact ⟨_, y, rfl, hg, hh, h⟩
      · cases h
    · cases h
  · cases h
mutual
def outT : Nat → (s : RSh) → (Nat → Option TX) → TX → Option (Bool × s.den × (Nat → Option TX))
  | _, .ty τ, r, x => tyT τ r x
  | _, .ow d τ, r, x => owT d τ r x
  | n, .ag c, r, x => match agOf x with
    | some xs => outTC n c r xs
    | none => none
  | _, .tup _, _, _ => none
  | _, .pr _ _, _, _ => none
  | 0, .ob _, _, _ => none
  | n + 1, .ob s, r, x => obT (fun r y => outT n s r y) r x
  | _, .np, r, x => npT r x
  | _, .un, _, _ => none
def outTC : Nat → (s : RSh) → (Nat → Option TX) → List TX → Option (Bool × s.den × (Nat → Option TX))
  | n, .pr a c, r, xs => match headT xs with
    | some (x, ys) => pairT (outT n a r x) fun r1 => outTC n c r1 ys
    | none => none
  | _, .ty τ, r, xs => match lone xs with
    | some x => tyT τ r x
    | none => none
  | _, .ow d τ, r, xs => match lone xs with
    | some x => owT d τ r x
    | none => none
  | n, .ag c, r, xs => match lone xs with
    | some x => (match agOf x with
      | some ys => outTC n c r ys
      | none => none)
    | none => none
  | _, .tup _, _, _ => none
  | 0, .ob _, _, _ => none
  | n + 1, .ob s, r, xs => match lone xs with
    | some x => obT (fun r y => outT n s r y) r x
    | none => none
  | _, .np, r, xs => match lone xs with
    | some x => npT r x
    | none => none
  | _, .un, r, xs => match xs with
    | [] => some (true, (), r)
    | _ => none
end
end Go.EV
