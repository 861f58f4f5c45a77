/- Functions on typed values; one operation after the other, with what comes behind. -/
import Derived.Test.YtfadalgikdffeaaGreatTv5
set_option linter.unusedVariables false
set_option linter.unusedSimpArgs false
namespace Go.EV
open Go.RowKit
/-- What a function hands back. -/
inductive RSh where
  | ty (τ : Ty) | ow (d : Nat) (τ : Ty) | ag (c : RSh) | tup (c : RSh) | pr (a c : RSh) | ob (s : RSh) | opt (s : RSh) | np | un
  deriving Inhabited
def RSh.den : RSh → Type
  | .ty τ => τ.den
  | .ow _ τ => List τ.den
  | .ag c => c.den
  | .tup c => c.den
  | .pr a c => a.den × c.den
  | .ob s => s.den
  | .opt s => Option s.den
  | .np => Unit
  | .un => Unit
def RSh.flat : RSh → Bool
  | .ty τ => τ.flat
  | .ow _ τ => τ.flat
  | .ag c => c.flat
  | .tup c => c.flat
  | .pr a c => a.flat && c.flat
  | .ob s => s.flat
  | .opt s => s.flat
  | .np => true
  | .un => true
mutual
def embR : (s : RSh) → s.den → X
  | .ty τ, v => embX τ v
  | .ow d τ, v => .ow d (List.map (embX τ) v)
  | .ag c, v => .ag (embRC c v)
  | .tup c, v => .tup (embRC c v)
  | .pr a c, v => .ag (embR a v.1 :: embRC c v.2)
  | .ob s, v => .ob (embR s v)
  | .opt s, v => match v with
    | none => .np
    | some u => .ob (embR s u)
  | .np, _ => .np
  | .un, _ => .tup []
def embRC : (s : RSh) → s.den → List X
  | .ty τ, v => [embX τ v]
  | .ow d τ, v => [.ow d (List.map (embX τ) v)]
  | .ag c, v => [.ag (embRC c v)]
  | .tup c, v => [.tup (embRC c v)]
  | .pr a c, v => embR a v.1 :: embRC c v.2
  | .ob s, v => [.ob (embR s v)]
  | .opt s, v => match v with
    | none => [.np]
    | some u => [.ob (embR s u)]
  | .np, _ => [.np]
  | .un, _ => []
end
mutual
/-- What comes over gets names. -/
def impR (nm : Nat → Nat) : (s : RSh) → s.den → Nat → TX × List (Nat × TX) × Nat
  | .ty τ, v, j => (emb τ v, [], j)
  | .ow d τ, v, j => (.hw (nm j), [(nm j, .ar d τ v)], j + 1)
  | .ag c, v, j => (.ag (impRC nm c v j).1, (impRC nm c v j).2.1, (impRC nm c v j).2.2)
  | .tup c, v, j => (.tup (impRC nm c v j).1, (impRC nm c v j).2.1, (impRC nm c v j).2.2)
  | .pr a c, v, j => (.ag ((impR nm a v.1 j).1 :: (impRC nm c v.2 (impR nm a v.1 j).2.2).1), (impR nm a v.1 j).2.1 ++ (impRC nm c v.2 (impR nm a v.1 j).2.2).2.1, (impRC nm c v.2 (impR nm a v.1 j).2.2).2.2)
  | .ob s, v, j => (.pt (nm j) [], (impR nm s v (j + 1)).2.1 ++ [(nm j, (impR nm s v (j + 1)).1)], (impR nm s v (j + 1)).2.2)
  | .opt s, v, j => match v with
    | none => (.np, [], j)
    | some u => (.pt (nm j) [], (impR nm s u (j + 1)).2.1 ++ [(nm j, (impR nm s u (j + 1)).1)], (impR nm s u (j + 1)).2.2)
  | .np, _, j => (.np, [], j)
  | .un, _, j => (.tup [], [], j)
def impRC (nm : Nat → Nat) : (s : RSh) → s.den → Nat → List TX × List (Nat × TX) × Nat
  | .ty τ, v, j => ([emb τ v], [], j)
  | .ow d τ, v, j => ([.hw (nm j)], [(nm j, .ar d τ v)], j + 1)
  | .ag c, v, j => ([.ag (impRC nm c v j).1], (impRC nm c v j).2.1, (impRC nm c v j).2.2)
  | .tup c, v, j => ([.tup (impRC nm c v j).1], (impRC nm c v j).2.1, (impRC nm c v j).2.2)
  | .pr a c, v, j => ((impR nm a v.1 j).1 :: (impRC nm c v.2 (impR nm a v.1 j).2.2).1, (impR nm a v.1 j).2.1 ++ (impRC nm c v.2 (impR nm a v.1 j).2.2).2.1, (impRC nm c v.2 (impR nm a v.1 j).2.2).2.2)
  | .ob s, v, j => ([.pt (nm j) []], (impR nm s v (j + 1)).2.1 ++ [(nm j, (impR nm s v (j + 1)).1)], (impR nm s v (j + 1)).2.2)
  | .opt s, v, j => match v with
    | none => ([.np], [], j)
    | some u => ([.pt (nm j) []], (impR nm s u (j + 1)).2.1 ++ [(nm j, (impR nm s u (j + 1)).1)], (impR nm s u (j + 1)).2.2)
  | .np, _, j => ([.np], [], j)
  | .un, _, j => ([], [], j)
end
theorem imp_fz' (nm : Nat → Nat) (j : Nat) (x : X) (h : x.fz = true) : imp nm j x = (x, [], j) := by
  exact (imp_fz nm j x h)
theorem newsX_append (a b : List (Nat × TX)) : newsX (a ++ b) = newsX a ++ newsX b := by simp [newsX]
mutual
theorem impR_ok (nm : Nat → Nat) : ∀ (s : RSh) (v : s.den) (j : Nat), imp nm j (embR s v) = ((impR nm s v j).1.x, newsX (impR nm s v j).2.1, (impR nm s v j).2.2)
  | .ty τ, v, j => (imp_fz nm j _ (embX_fz τ v)).trans (congrArg (fun x => (x, ([] : List (Nat × X)), j)) (emb_x τ v).symm)
  | .ow d τ, v, j => by simp [embR, impR, imp, TX.x, newsX]
  | .ag c, v, j => by simp only [embR, impR, imp, impRC_ok nm c v j, TX.x]
  | .tup c, v, j => by simp only [embR, impR, imp, impRC_ok nm c v j, TX.x]
  | .pr a c, v, j => by simp only [embR, impR, imp, impL, impR_ok nm a v.1 j, impRC_ok nm c v.2, TX.x, txL, newsX_append]
  | .ob s, v, j => by
    simp only [embR, impR, imp, impR_ok nm s v (j + 1), newsX_append]
    simp [TX.x, newsX, offOf, keysOf]
  | .opt s, v, j => by
    cases v with
    | none => simp [embR, impR, imp, TX.x, newsX]
    | some u =>
      simp only [embR, impR, imp, impR_ok nm s u (j + 1), newsX_append]
      simp [TX.x, newsX, offOf, keysOf]
  | .np, _, j => by simp [embR, impR, imp, TX.x, newsX]
  | .un, _, j => by simp [embR, impR, imp, impL, TX.x, newsX, txL]
theorem impRC_ok (nm : Nat → Nat) : ∀ (s : RSh) (v : s.den) (j : Nat), impL nm j (embRC s v) = (txL (impRC nm s v j).1, newsX (impRC nm s v j).2.1, (impRC nm s v j).2.2)
  | .ty τ, v, j => by
    simp only [embRC, impRC, impL, imp_fz _ _ _ (embX_fz τ v), newsX, List.map_nil, txL, List.append_nil]
    exact congrArg (fun x => ([x], ([] : List (Nat × X)), j)) (emb_x τ v).symm
  | .ow d τ, v, j => by simp [embRC, impRC, imp, impL, TX.x, newsX, txL]
  | .ag c, v, j => by simp only [embRC, impRC, imp, impL, impRC_ok nm c v j, TX.x, txL, List.append_nil]
  | .tup c, v, j => by simp only [embRC, impRC, imp, impL, impRC_ok nm c v j, TX.x, txL, List.append_nil]
  | .pr a c, v, j => by simp only [embRC, impRC, impL, impR_ok nm a v.1 j, impRC_ok nm c v.2, txL, newsX_append]
  | .ob s, v, j => by
    simp only [embRC, impRC, imp, impL, impR_ok nm s v (j + 1), newsX_append, txL, List.append_nil]
    simp [TX.x, newsX, offOf, keysOf]
  | .opt s, v, j => by
    cases v with
    | none => simp [embRC, impRC, imp, impL, TX.x, newsX, txL]
    | some u =>
      simp only [embRC, impRC, imp, impL, impR_ok nm s u (j + 1), newsX_append, txL, List.append_nil]
      simp [TX.x, newsX, offOf, keysOf]
  | .np, _, j => by simp [embRC, impRC, imp, impL, TX.x, newsX, txL]
  | .un, _, j => by simp [embRC, impRC, imp, impL, TX.x, newsX, txL]
end
mutual
theorem embR_flat : ∀ (s : RSh) (v : s.den), s.flat = true → (embR s v).flat = true
  | .ty τ, v, h => embX_flat τ v h
  | .ow d τ, v, h => by
    simp only [embR, X.flat]
    have : ∀ l : List τ.den, flatL (l.map (embX τ)) = true := by
      intro l
      induction l with
      | nil => rfl
      | cons a l ih => simp only [List.map_cons, flatL, ih, embX_flat τ a h, Bool.and_self]
    exact this v
  | .ag c, v, h => by simp only [embR, X.flat]; exact embRC_flat c v h
  | .tup c, v, h => by simp only [embR, X.flat]; exact embRC_flat c v h
  | .pr a c, v, h => by
    simp only [RSh.flat, Bool.and_eq_true] at h
    simp only [embR, X.flat, flatL, embR_flat a v.1 h.1, embRC_flat c v.2 h.2, Bool.and_self]
  | .ob s, v, h => by simp only [embR, X.flat]; exact embR_flat s v h
  | .opt s, v, h => by
    cases v with
    | none => simp [embR, X.flat]
    | some u => simp only [embR, X.flat]; exact embR_flat s u h
  | .np, _, h => by simp [embR, X.flat]
  | .un, _, h => by simp [embR, X.flat, flatL]
theorem embRC_flat : ∀ (s : RSh) (v : s.den), s.flat = true → flatL (embRC s v) = true
  | .ty τ, v, h => by simp only [embRC, flatL, embX_flat τ v h, Bool.and_self]
  | .ow d τ, v, h => by
    have : ∀ l : List τ.den, flatL (l.map (embX τ)) = true := by
      intro l
      induction l with
      | nil => rfl
      | cons a l ih => simp only [List.map_cons, flatL, ih, embX_flat τ a h, Bool.and_self]
    simp only [embRC, flatL, X.flat, this v, Bool.and_self]
  | .ag c, v, h => by simp only [embRC, X.flat, flatL, embRC_flat c v h, Bool.and_self]
  | .tup c, v, h => by simp only [embRC, X.flat, flatL, embRC_flat c v h, Bool.and_self]
  | .pr a c, v, h => by
    simp only [RSh.flat, Bool.and_eq_true] at h
    simp only [embRC, flatL, embR_flat a v.1 h.1, embRC_flat c v.2 h.2, Bool.and_self]
  | .ob s, v, h => by simp only [embRC, flatL, X.flat, embR_flat s v h, Bool.and_self]
  | .opt s, v, h => by
    cases v with
    | none => simp [embRC, X.flat, flatL]
    | some u => simp only [embRC, flatL, X.flat, embR_flat s u h, Bool.and_self]
  | .np, _, h => by simp [embRC, X.flat, flatL]
  | .un, _, h => by simp [embRC, X.flat, flatL]
end
/-! ### what goes over, read otherwise -/
def RoLe (y z : X) : Prop := (∀ w F cs bs, Ro w F y cs bs → Ro w F z cs bs) ∧ z.size = y.size ∧ z.arD = y.arD ∧ z.agg = y.agg ∧ z.isTup = y.isTup
def RoLeL (ys zs : List X) : Prop := (∀ w F cs bs, RoL w F ys cs bs → RoL w F zs cs bs) ∧ sizeL zs = sizeL ys
theorem RoLe.refl (y : X) : RoLe y y := ⟨fun _ _ _ _ h => h, rfl, rfl, rfl, rfl⟩
theorem RoLeL.nil : RoLeL [] [] := ⟨fun _ _ _ _ h => h, rfl⟩
theorem RoLeL.cons {y z : X} {ys zs : List X} (h : RoLe y z) (hs : RoLeL ys zs) : RoLeL (y :: ys) (z :: zs) := by
  refine ⟨fun w F cs bs h1 => ?_, by simp only [sizeL, h.2.1, hs.2]⟩
  simp only [RoL] at h1 ⊢
  obtain ⟨c1, c2, b1, b2, e1, e2, h2, h3⟩ := h1
  exact ⟨c1, c2, b1, b2, e1, e2, h.1 _ _ _ _ h2, hs.1 _ _ _ _ h3⟩
theorem RoLe.ag {ys zs : List X} (h : RoLeL ys zs) : RoLe (.ag ys) (.ag zs) := by
  refine ⟨fun w F cs bs h1 => ?_, by simp only [X.size, h.2], rfl, rfl, rfl⟩
  simp only [Ro] at h1 ⊢
  exact h.1 _ _ _ _ h1
theorem RoLe.ob {y z : X} (h : RoLe y z) : RoLe (.ob y) (.ob z) := by
  refine ⟨fun w F cs bs h1 => ?_, by simp [X.size], by simp [X.arD], rfl, rfl⟩
  simp only [Ro] at h1 ⊢
  obtain ⟨b, o, c, bs', e1, e2, h2, h3, h4, h5⟩ := h1
  exact ⟨b, o, c, bs', e1, e2, h.1 _ _ _ _ h2, by rw [h.2.2.1]; exact h3, by rw [h.2.1]; exact h4, by rw [h.2.1]; exact h5⟩
mutual
theorem ro_wk {w : World} {F : Nat → Prop} : ∀ {x : X} {cs : List Value} {bs : List Nat}, Ro w F x cs bs → Ro w F x.wk cs bs
  | .ag xs, cs, bs, h => by simp only [Ro, X.wk] at h ⊢; exact roL_wk h
  | .sl f xs, cs, bs, h => by
    simp only [Ro] at h
    have := rf_wk h.2
    simp only [X.wk] at this ⊢
    simp only [Ro]
    exact ⟨h.1, this⟩
  | .pf x, cs, bs, h => by
    simp only [Ro] at h
    have := rf_wk h.2
    simp only [X.wk] at this ⊢
    simp only [Ro]
    exact ⟨h.1, this⟩
  | .ob x, cs, bs, h => by
    simp only [Ro, X.wk] at h ⊢
    obtain ⟨b, o, c, bs', e1, e2, h2, h3, h4, h5⟩ := h
    exact ⟨b, o, c, bs', e1, e2, ro_wk h2, by rw [wk_arD]; exact h3, by rw [wk_size]; exact h4, by rw [wk_size]; exact h5⟩
  | .tup xs, cs, bs, h => by simp [Ro] at h
  | .b v, cs, bs, h | .i k n, cs, bs, h | .s l, cs, bs, h | .ar d xs, cs, bs, h | .np, cs, bs, h | .nm, cs, bs, h | .nf, cs, bs, h | .bot, cs, bs, h | .hw _, cs, bs, h | .hd _ _ _ _, cs, bs, h | .pt _ _ _, cs, bs, h | .fn _ _, cs, bs, h | .ow _ _, cs, bs, h => by simpa only [X.wk] using h
theorem roL_wk {w : World} {F : Nat → Prop} : ∀ {xs : List X} {cs : List Value} {bs : List Nat}, RoL w F xs cs bs → RoL w F (wkL xs) cs bs
  | [], cs, bs, h => by simpa only [RoL, wkL] using h
  | x :: xs, cs, bs, h => by
    simp only [RoL, wkL] at h ⊢
    obtain ⟨c1, c2, b1, b2, e1, e2, h2, h3⟩ := h
    exact ⟨c1, c2, b1, b2, e1, e2, ro_wk h2, roL_wk h3⟩
end
theorem RoLe.wk (x : X) : RoLe x x.wk := ⟨fun _ _ _ _ h => ro_wk h, wk_size x, wk_arD x, wk_agg x, wk_tup x⟩
theorem RoLe.void (d : Nat) : RoLe (.sl true []) (.ow d []) := by
  refine ⟨fun w F cs bs h => ?_, rfl, rfl, rfl, rfl⟩
  simp only [Ro, Rf] at h
  obtain ⟨rfl, a, c, rfl, h1, h2, _⟩ := h
  simp only [Ro]
  exact ⟨a, c, rfl, h1, .inl ⟨by simpa using h2, trivial⟩⟩
mutual
/-- A value that goes over, as its shape reads it. -/
def cvR : (s : RSh) → X → X
  | .ty _, x => x.wk
  | .ow d _, x => match x with
    | .sl true [] => .ow d []
    | x => x
  | .ag c, x => match x with
    | .ag xs => .ag (cvRC c xs)
    | x => x
  | .ob s, x => match x with
    | .ob y => .ob (cvR s y)
    | x => x
  | .opt s, x => match x with
    | .ob y => .ob (cvR s y)
    | x => x
  | .tup _, x => x
  | .pr _ _, x => x
  | .np, x => x
  | .un, x => x
def cvRC : (s : RSh) → List X → List X
  | .pr a c, xs => match xs with
    | x :: xs => cvR a x :: cvRC c xs
    | [] => []
  | .ty _, xs => match xs with
    | [x] => [x.wk]
    | xs => xs
  | .ow d _, xs => match xs with
    | [.sl true []] => [.ow d []]
    | xs => xs
  | .ag c, xs => match xs with
    | [.ag ys] => [.ag (cvRC c ys)]
    | xs => xs
  | .ob s, xs => match xs with
    | [.ob y] => [.ob (cvR s y)]
    | xs => xs
  | .opt s, xs => match xs with
    | [.ob y] => [.ob (cvR s y)]
    | xs => xs
  | .tup _, xs => xs
  | .np, xs => xs
  | .un, xs => xs
end
theorem RoLeL.refl (ys : List X) : RoLeL ys ys := ⟨fun _ _ _ _ h => h, rfl⟩
mutual
theorem roLe_cv : ∀ (s : RSh) (x : X), RoLe x (cvR s x)
  | .ty _, x => RoLe.wk x
  | .ow d _, x => by
    simp only [cvR]
    split
    · exact RoLe.void d
    · exact RoLe.refl _
  | .ag c, x => by
    simp only [cvR]
    split
    · exact RoLe.ag (roLe_cvC c _)
    · exact RoLe.refl _
  | .ob s, x => by
    simp only [cvR]
    split
    · exact RoLe.ob (roLe_cv s _)
    · exact RoLe.refl _
  | .opt s, x => by
    simp only [cvR]
    split
    · exact RoLe.ob (roLe_cv s _)
    · exact RoLe.refl _
  | .tup _, x | .pr _ _, x | .np, x | .un, x => RoLe.refl _
theorem roLe_cvC : ∀ (s : RSh) (xs : List X), RoLeL xs (cvRC s xs)
  | .pr a c, xs => by
    simp only [cvRC]
    split
    · exact RoLeL.cons (roLe_cv a _) (roLe_cvC c _)
    · exact RoLeL.nil
  | .ty _, xs => by
    simp only [cvRC]
    split
    · exact RoLeL.cons (RoLe.wk _) RoLeL.nil
    · exact RoLeL.refl _
  | .ow d _, xs => by
    simp only [cvRC]
    split
    · exact RoLeL.cons (RoLe.void d) RoLeL.nil
    · exact RoLeL.refl _
  | .ag c, xs => by
    simp only [cvRC]
    split
    · exact RoLeL.cons (RoLe.ag (roLe_cvC c _)) RoLeL.nil
    · exact RoLeL.refl _
  | .ob s, xs => by
    simp only [cvRC]
    split
    · exact RoLeL.cons (RoLe.ob (roLe_cv s _)) RoLeL.nil
    · exact RoLeL.refl _
  | .opt s, xs => by
    simp only [cvRC]
    split
    · exact RoLeL.cons (RoLe.ob (roLe_cv s _)) RoLeL.nil
    · exact RoLeL.refl _
  | .tup _, xs | .np, xs | .un, xs => RoLeL.refl _
end
/-! ### parameters -/
/-- How a parameter comes: d data, f a slice without room, p a pointer to data, ow a place that goes over, io one that comes back (as s'). -/
inductive PSh where
  | d (τ : Ty) | f (τ : Ty) | p (τ : Ty) | ow (s : RSh) | io (s s' : RSh)
  deriving Inhabited
def PSh.md : PSh → Md
  | .d _ | .f _ | .p _ => .rd
  | .ow _ => .ow
  | .io _ _ => .io
def mdL : List PSh → List Md
  | [] => []
  | p :: ps => p.md :: mdL ps
def p1den : PSh → Type
  | .f τ => List τ.den
  | .d τ => τ.den
  | .p τ => τ.den
  | .ow s => s.den
  | .io s _ => s.den
def pden : List PSh → Type
  | [] => Unit
  | [p] => p1den p
  | p :: q :: ps => p1den p × pden (q :: ps)
/-- What comes back. -/
def osOf : List PSh → List RSh
  | [] => []
  | .io _ s' :: ps => s' :: osOf ps
  | .d _ :: ps | .f _ :: ps | .p _ :: ps | .ow _ :: ps => osOf ps
def oden : List RSh → Type
  | [] => Unit
  | [s] => s.den
  | s :: t :: l => s.den × oden (t :: l)
def pairD (rs : RSh) : List RSh → Type
  | [] => rs.den
  | s :: l => rs.den × oden (s :: l)
def pairD.fst {rs : RSh} : (os : List RSh) → pairD rs os → rs.den
  | [], v => v
  | _ :: _, v => v.1
def pairD.snd {rs : RSh} : (os : List RSh) → pairD rs os → oden os
  | [], _ => ()
  | _ :: _, v => v.2
def pairD.mk {rs : RSh} : (os : List RSh) → rs.den → oden os → pairD rs os
  | [], v, _ => v
  | _ :: _, v, u => (v, u)
theorem pairD.fst_mk {rs : RSh} : ∀ (os : List RSh) (v : rs.den) (u : oden os), pairD.fst os (pairD.mk os v u) = v
  | [], _, _ => rfl
  | _ :: _, _, _ => rfl
theorem pairD.snd_mk {rs : RSh} : ∀ (os : List RSh) (v : rs.den) (u : oden os), pairD.snd os (pairD.mk os v u) = u
  | [], _, _ => rfl
  | _ :: _, _, _ => rfl
def oHead {s : RSh} : (l : List RSh) → oden (s :: l) → s.den
  | [], v => v
  | _ :: _, v => v.1
def oTail {s : RSh} : (l : List RSh) → oden (s :: l) → oden l
  | [], _ => ()
  | _ :: _, v => v.2
def oCons {s : RSh} : (l : List RSh) → s.den → oden l → oden (s :: l)
  | [], v, _ => v
  | _ :: _, v, u => (v, u)
theorem oHead_cons {s : RSh} : ∀ (l : List RSh) (v : s.den) (u : oden l), oHead l (oCons l v u) = v
  | [], _, _ => rfl
  | _ :: _, _, _ => rfl
theorem oTail_cons {s : RSh} : ∀ (l : List RSh) (v : s.den) (u : oden l), oTail l (oCons l v u) = u
  | [], _, _ => rfl
  | _ :: _, _, _ => rfl
def outEmb : (ps : List PSh) → oden (osOf ps) → List X
  | [], _ => []
  | .io _ s' :: ps, v => embR s' (oHead (osOf ps) v) :: outEmb ps (oTail (osOf ps) v)
  | .d _ :: ps, v => .bot :: outEmb ps v
  | .f _ :: ps, v => .bot :: outEmb ps v
  | .p _ :: ps, v => .bot :: outEmb ps v
  | .ow _ :: ps, v => .bot :: outEmb ps v
def mkP1 : (p : PSh) → p1den p → X
  | .f τ, v => .sl true (List.map (embX τ) v)
  | .d τ, v => embX τ v
  | .p τ, v => .pf (embX τ v)
  | .ow s, v => embR s v
  | .io s _, v => embR s v
def mkP : (ps : List PSh) → pden ps → List X
  | [], _ => []
  | [p], v => [mkP1 p v]
  | p :: q :: ps, v => mkP1 p v.1 :: mkP (q :: ps) v.2
def wkP1 : PSh → X → X
  | .f _, x => x
  | .d _, x => x.wk
  | .p _, x => x.wk
  | .ow s, x => cvR s x
  | .io s _, x => cvR s x
def wkP : List PSh → List X → List X
  | [], xs => xs
  | p :: ps, x :: xs => wkP1 p x :: wkP ps xs
  | _ :: _, [] => []
theorem roLe_wkP1 : ∀ (p : PSh) (x : X), RoLe x (wkP1 p x)
  | .f _, x => RoLe.refl x
  | .d _, x => RoLe.wk x
  | .p _, x => RoLe.wk x
  | .ow s, x => roLe_cv s x
  | .io s _, x => roLe_cv s x
theorem roVL_wkP {w : World} {F : Nat → Prop} : ∀ {ps : List PSh} {xs : List X} {vs : List Value} {bs : List Nat}, xs.length = (wkP ps xs).length → RoVL w F xs vs bs → RoVL w F (wkP ps xs) vs bs
  | [], _, _, _, _, h => h
  | p :: ps, [], _, _, _, h => h
  | p :: ps, x :: xs, vs, bs, hl, h => by
    simp only [wkP, RoVL] at h ⊢
    obtain ⟨v, vs', cs, b1, b2, e1, e2, h1, h2, h3⟩ := h
    have hr := roLe_wkP1 p x
    exact ⟨v, vs', cs, b1, b2, e1, e2, hr.1 _ _ _ _ h1, by rw [h2]; simp only [val, hr.2.2.2.1], roVL_wkP (by simpa [wkP] using hl) h3⟩
def unPf (τ : Ty) (x : TX) : Option (Bool × τ.den) :=
  match x with
  | .pf y => unemb τ y.wk
  | _ => none
theorem unPf_ok {τ : Ty} {x : TX} {v : τ.den} (h : unPf τ x = some (true, v)) : x.x.wk = .pf (embX τ v) := by
  unfold unPf at h
  split at h
  · rename_i y
    simp only [TX.x, X.wk]
    rw [← unemb_ok τ _ v h, wk_x]
  · cases h
/-- What is read alone. -/
def unP1 : (p : PSh) → TX → Option (Bool × p1den p)
  | .p τ, x => unPf τ x
  | .f τ, x => match x with
    | .sl true σ vs => match asTy σ vs τ with
      | some us => some (true, us)
      | none => none
    | .emp true => some (true, ([] : List τ.den))
    | _ => none
  | .d τ, x => unemb τ x.wk
  | .ow _, _ => none
  | .io _ _, _ => none
def unP : (ps : List PSh) → List TX → Option (Bool × pden ps)
  | [], xs => match xs with
    | [] => some (true, ())
    | _ :: _ => none
  | [p], xs => match lone xs with
    | some x => unP1 p x
    | none => none
  | p :: q :: ps, xs => match headT xs with
    | some (x, ys) => match unP1 p x with
      | some (c, u) => match unP (q :: ps) ys with
        | some (c', v) => some (c && c', (u, v))
        | none => none
      | none => none
    | none => none
theorem unP1_ok {p : PSh} {x : TX} {v : p1den p} (h : unP1 p x = some (true, v)) : wkP1 p x.x = mkP1 p v := by
  cases p with
  | d τ => simp only [wkP1, mkP1]; rw [← unemb_ok τ _ v h, wk_x]
  | p τ => exact unPf_ok h
  | f τ =>
    simp only [wkP1, mkP1]
    cases x with
    | sl f σ vs =>
      cases f <;> simp only [unP1, reduceCtorEq] at h
      split at h
      · rename_i us hu
        have h : us = v := congrArg Prod.snd (Option.some.inj h)
        subst h
        simp only [TX.x, (asTy_ok hu).1]
      · cases h
    | emp f =>
      cases f <;> simp only [unP1, reduceCtorEq] at h
      have h : ([] : List τ.den) = v := congrArg Prod.snd (Option.some.inj h)
      subst h
      rfl
    | _ => simp [unP1] at h
  | ow s => simp [unP1] at h
  | io s s' => simp [unP1] at h
theorem unP_ok : ∀ {ps : List PSh} {xs : List TX} {v : pden ps}, unP ps xs = some (true, v) → wkP ps (txL xs) = mkP ps v
  | [], xs, v, h => by
    cases xs with
    | nil => rfl
    | cons x xs => simp [unP] at h
  | [p], xs, v, h => by
    simp only [unP] at h
    split at h
    · rename_i x hx
      rw [lone_ok hx]
      simp only [txL, wkP, mkP, unP1_ok h]
    · cases h
  | p :: q :: ps, xs, v, h => by
    simp only [unP] at h
    split at h
    · rename_i x ys hx
      split at h
      · rename_i c u hu
        split at h
        · rename_i c' w hw
          have h3 := congrArg (fun o => (o.getD (false, (u, w))).1) h
          have h4 := congrArg (fun o => (o.getD (false, (u, w))).2) h
          simp only [Option.getD_some, Bool.and_eq_true] at h3 h4
          obtain ⟨rfl, rfl⟩ := h3
          subst h4
          rw [headT_ok hx]
          simp only [txL, mkP, ← unP1_ok hu, ← unP_ok hw]
          rfl
        · cases h
      · cases h
    · cases h
mutual
theorem embX_inj : ∀ (τ : Ty) (a b : τ.den), embX τ a = embX τ b → a = b
  | .b, a, b, h => X.b.inj h
  | .i k, a, b, h => (X.i.inj h).2
  | .u8, a, b, h => by
    simp only [embX, X.i.injEq, true_and] at h
    exact UInt8.toNat_inj.1 (Int.ofNat.inj h)
  | .s, a, b, h => X.s.inj h
  | .st c, a, b, h => by simp only [embX, X.ag.injEq] at h; exact embXC_inj c a b h
  | .pr x c, a, b, h => by
    simp only [embX, X.ag.injEq, List.cons.injEq] at h
    exact Prod.ext (embX_inj x _ _ h.1) (embXC_inj c _ _ h.2)
  | .sl e, a, b, h => by
    simp only [embX, X.sl.injEq, true_and] at h
    exact (List.map_inj_right (fun x y hxy => embX_inj e x y hxy)).1 h
theorem embXC_inj : ∀ (τ : Ty) (a b : τ.den), embXC τ a = embXC τ b → a = b
  | .b, a, b, h => X.b.inj (List.cons.inj h).1
  | .i k, a, b, h => (X.i.inj (List.cons.inj h).1).2
  | .u8, a, b, h => by
    simp only [embXC, List.cons.injEq, X.i.injEq, true_and, and_true] at h
    exact UInt8.toNat_inj.1 (Int.ofNat.inj h)
  | .s, a, b, h => X.s.inj (List.cons.inj h).1
  | .st c, a, b, h => by simp only [embXC, List.cons.injEq, X.ag.injEq, and_true] at h; exact embXC_inj c a b h
  | .pr x c, a, b, h => by
    simp only [embXC, List.cons.injEq] at h
    exact Prod.ext (embX_inj x _ _ h.1) (embXC_inj c _ _ h.2)
  | .sl e, a, b, h => by
    simp only [embXC, List.cons.injEq, X.sl.injEq, true_and, and_true] at h
    exact (List.map_inj_right (fun x y hxy => embX_inj e x y hxy)).1 h
end
mutual
theorem embR_inj : ∀ (s : RSh) (a b : s.den), embR s a = embR s b → a = b
  | .ty τ, a, b, h => embX_inj τ a b h
  | .ow d τ, a, b, h => by
    simp only [embR, X.ow.injEq, true_and] at h
    exact (List.map_inj_right (fun x y hxy => embX_inj τ x y hxy)).1 h
  | .ag c, a, b, h => by simp only [embR, X.ag.injEq] at h; exact embRC_inj c a b h
  | .tup c, a, b, h => by simp only [embR, X.tup.injEq] at h; exact embRC_inj c a b h
  | .pr x c, a, b, h => by
    simp only [embR, X.ag.injEq, List.cons.injEq] at h
    exact Prod.ext (embR_inj x _ _ h.1) (embRC_inj c _ _ h.2)
  | .ob s, a, b, h => by simp only [embR, X.ob.injEq] at h; exact embR_inj s a b h
  | .opt s, a, b, h => by
    cases a with
    | none => cases b with
      | none => rfl
      | some b => simp [embR] at h
    | some a => cases b with
      | none => simp [embR] at h
      | some b =>
        simp only [embR, X.ob.injEq] at h
        exact congrArg some (embR_inj s a b h)
  | .np, a, b, h => rfl
  | .un, a, b, h => rfl
theorem embRC_inj : ∀ (s : RSh) (a b : s.den), embRC s a = embRC s b → a = b
  | .ty τ, a, b, h => embX_inj τ a b (List.cons.inj h).1
  | .ow d τ, a, b, h => by
    simp only [embRC, List.cons.injEq, X.ow.injEq, true_and, and_true] at h
    exact (List.map_inj_right (fun x y hxy => embX_inj τ x y hxy)).1 h
  | .ag c, a, b, h => by simp only [embRC, List.cons.injEq, X.ag.injEq, and_true] at h; exact embRC_inj c a b h
  | .tup c, a, b, h => by simp only [embRC, List.cons.injEq, X.tup.injEq, and_true] at h; exact embRC_inj c a b h
  | .pr x c, a, b, h => by
    simp only [embRC, List.cons.injEq] at h
    exact Prod.ext (embR_inj x _ _ h.1) (embRC_inj c _ _ h.2)
  | .ob s, a, b, h => by simp only [embRC, List.cons.injEq, X.ob.injEq, and_true] at h; exact embR_inj s a b h
  | .opt s, a, b, h => by
    cases a with
    | none => cases b with
      | none => rfl
      | some b => simp [embRC] at h
    | some a => cases b with
      | none => simp [embRC] at h
      | some b =>
        simp only [embRC, List.cons.injEq, X.ob.injEq, and_true] at h
        exact congrArg some (embR_inj s a b h)
  | .np, a, b, h => rfl
  | .un, a, b, h => rfl
end
theorem mkP1_inj {p : PSh} {a b : p1den p} (h : mkP1 p a = mkP1 p b) : a = b := by
  cases p with
  | d τ => exact embX_inj τ a b h
  | p τ =>
    simp only [mkP1, X.pf.injEq] at h
    exact embX_inj τ a b h
  | f τ =>
    simp only [mkP1, X.sl.injEq, true_and] at h
    exact (List.map_inj_right (fun x y hxy => embX_inj τ x y hxy)).1 h
  | ow s => exact embR_inj s a b h
  | io s s' => exact embR_inj s a b h
theorem mkP_inj : ∀ {ps : List PSh} {a b : pden ps}, mkP ps a = mkP ps b → a = b
  | [], a, b, h => rfl
  | [p], a, b, h => by simp only [mkP, List.cons.injEq, and_true] at h; exact mkP1_inj h
  | p :: q :: ps, a, b, h => by
    simp only [mkP, List.cons.injEq] at h
    exact Prod.ext (mkP1_inj h.1) (mkP_inj h.2)
/-- A function: its parameters, what it hands back, what it computes. -/
structure FI where
  ps : List PSh
  rs : RSh
  G : pden ps → Option (pairD rs (osOf ps))
abbrev Env := FuncId → Option FI
open Classical in
noncomputable def callE (env : Env) (f : FuncId) (xs : List X) : Option (X × List X) :=
  match env f with
  | some inf => if h : ∃ v a, wkP inf.ps xs = mkP inf.ps a ∧ inf.G a = some v then some (embR inf.rs (pairD.fst _ (Classical.choose h)), outEmb inf.ps (pairD.snd _ (Classical.choose h))) else none
  | none => none
theorem callE_eq {env : Env} {f : FuncId} {inf : FI} {xs : List X} {a : pden inf.ps} {v : pairD inf.rs (osOf inf.ps)} (hf : env f = some inf) (h1 : wkP inf.ps xs = mkP inf.ps a) (h2 : inf.G a = some v) : callE env f xs = some (embR inf.rs (pairD.fst _ v), outEmb inf.ps (pairD.snd _ v)) := by
  unfold callE
  simp only [hf]
  have hex : ∃ v a, wkP inf.ps xs = mkP inf.ps a ∧ inf.G a = some v := ⟨v, a, h1, h2⟩
  rw [dif_pos hex]
  obtain ⟨a', h3, h4⟩ := Classical.choose_spec hex
  have := mkP_inj (h1.symm.trans h3)
  subst this
  rw [h2] at h4
  rw [← Option.some.inj h4]
/-- What holds of a function of the program. -/
def FnOk (P : Program) (f : FuncId) (inf : FI) : Prop :=
  ∀ a v, inf.G a = some v → ∀ (w : World) (F : Nat → Prop) (vs : List Value) (bi : List Nat), RoVL w F (mkP inf.ps a) vs bi → bi.Nodup → (∀ b ∈ bi, ¬ F b ∧ b < w.heap.size) → (∀ b, F b → b < w.heap.size) →
    (P.funcs[f]?).any (fun fn => fn.body.isSome && fn.name != "runtime.NumGoroutine") = true ∧
    Calls P f vs.toArray w fun e w' => ∃ u, e = .returned u ∧ Came w F vs bi (embR inf.rs (pairD.fst _ v)) (outEmb inf.ps (pairD.snd _ v)) u w'
def EnvOk (P : Program) (env : Env) : Prop := ∀ f inf, env f = some inf → FnOk P f inf
theorem wkP_len : ∀ {ps : List PSh} {ys : List X}, ys.length = (wkP ps ys).length
  | [], ys => by simp [wkP]
  | p :: ps, [] => by simp [wkP]
  | p :: ps, y :: ys => by simp only [wkP, List.length_cons, ← wkP_len]
theorem callE_ok {P : Program} {env : Env} (h : EnvOk P env) : CallOk P (callE env) := by
  intro f ts res outs hc w F vs bi hvs hnd hbi hF
  unfold callE at hc
  split at hc
  · rename_i inf hf
    split at hc
    · rename_i hex
      cases hc
      obtain ⟨a, h1, h2⟩ := Classical.choose_spec hex
      refine h f inf hf a _ h2 w F vs bi ?_ hnd hbi hF
      rw [← h1]
      exact roVL_wkP wkP_len hvs
    · cases hc
  · cases hc
end Go.EV
