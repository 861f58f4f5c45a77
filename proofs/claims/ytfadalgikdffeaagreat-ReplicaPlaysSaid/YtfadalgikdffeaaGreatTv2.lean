/- Typed plain values: their sizes; places in them; to and fro. -/
import Derived.Test.YtfadalgikdffeaaGreatTv1
set_option linter.unusedVariables false
set_option linter.unusedSimpArgs false
namespace Go.EV
open Go.RowKit
mutual
def TX.size : TX → Nat
  | .ag xs => tsizeL xs
  | .ar d _ vs => d * vs.length
  | .bot | .b _ | .i _ _ | .s _ | .tup _ | .sl _ _ _ | .emp _ | .hw _ | .hd _ _ _ _ | .np | .pt _ _ | .pf _ | .nm | .nf | .fn _ _ => 1
def tsizeL : List TX → Nat
  | [] => 0
  | x :: xs => x.size + tsizeL xs
end
def TX.agg : TX → Bool
  | .ag _ | .ar _ _ _ => true
  | _ => false
def TX.isBot : TX → Bool
  | .bot => true
  | _ => false
def TX.isTup : TX → Bool
  | .tup _ => true
  | _ => false
mutual
def TX.refs : TX → List Nat
  | .ag xs | .tup xs | .fn _ xs => trefsL xs
  | .hw g | .hd g _ _ _ | .pt g _ => [g]
  | .bot | .b _ | .i _ _ | .s _ | .ar _ _ _ | .sl _ _ _ | .emp _ | .np | .pf _ | .nm | .nf => []
def trefsL : List TX → List Nat
  | [] => []
  | x :: xs => x.refs ++ trefsL xs
end
mutual
theorem size_x : ∀ x : TX, x.x.size = x.size
  | .ag xs => by simp only [TX.x, X.size, TX.size]; exact sizeL_x xs
  | .ar d τ vs => by simp [TX.x, X.size, TX.size]
  | .bot | .b _ | .i _ _ | .s _ | .tup _ | .sl _ _ _ | .emp _ | .hw _ | .hd _ _ _ _ | .np | .pt _ _ | .pf _ | .nm | .nf | .fn _ _ => by simp [TX.x, X.size, TX.size]
theorem sizeL_x : ∀ xs : List TX, sizeL (txL xs) = tsizeL xs
  | [] => rfl
  | x :: xs => by simp only [txL, sizeL, tsizeL, size_x x, sizeL_x xs]
end
theorem agg_x (x : TX) : x.x.agg = x.agg := by cases x <;> simp [TX.x, X.agg, TX.agg]
theorem bot_x (x : TX) : x.x.isBot = x.isBot := by cases x <;> simp [TX.x, X.isBot, TX.isBot]
theorem tup_x (x : TX) : x.x.isTup = x.isTup := by cases x <;> simp [TX.x, X.isTup, TX.isTup]
mutual
theorem refs_x : ∀ x : TX, x.x.refs = x.refs
  | .ag xs | .tup xs | .fn _ xs => by simp only [TX.x, X.refs, TX.refs]; exact refsL_x xs
  | .ar d τ vs | .bot | .b _ | .i _ _ | .s _ | .sl _ _ _ | .emp _ | .hw _ | .hd _ _ _ _ | .np | .pt _ _ | .pf _ | .nm | .nf => by simp [TX.x, X.refs, TX.refs]
theorem refsL_x : ∀ xs : List TX, refsL (txL xs) = trefsL xs
  | [] => rfl
  | x :: xs => by simp only [txL, refsL, trefsL, refs_x x, refsL_x xs]
end
mutual
theorem wk_x : ∀ x : TX, x.wk.x = x.x.wk
  | .ag xs => by simp only [TX.x, X.wk, TX.wk]; rw [wkL_x xs]
  | .tup xs => by simp only [TX.x, X.wk, TX.wk]; rw [wkL_x xs]
  | .pf x => by simp only [TX.x, X.wk, TX.wk]; rw [wk_x x]
  | .ar d τ vs | .bot | .b _ | .i _ _ | .s _ | .sl _ _ _ | .emp _ | .hw _ | .hd _ _ _ _ | .np | .pt _ _ | .nm | .nf | .fn _ _ => by simp [TX.x, X.wk, TX.wk]
theorem wkL_x : ∀ xs : List TX, txL (twkL xs) = wkL (txL xs)
  | [] => rfl
  | x :: xs => by simp only [txL, twkL, wkL, wk_x x, wkL_x xs]
end
theorem txL_len (xs : List TX) : (txL xs).length = xs.length := by
  induction xs with
  | nil => rfl
  | cons x xs ih => simp [txL, ih]
theorem txL_map (xs : List TX) : txL xs = xs.map TX.x := by
  induction xs with
  | nil => rfl
  | cons x xs ih => simp [txL, ih]
theorem txL_get (xs : List TX) (j : Nat) : (txL xs)[j]? = (xs[j]?).map TX.x := by rw [txL_map, List.getElem?_map]
theorem txL_take (xs : List TX) (j : Nat) : (txL xs).take j = txL (xs.take j) := by simp [txL_map, List.map_take]
theorem txL_set (xs : List TX) (j : Nat) (v : TX) : (txL xs).set j v.x = txL (xs.set j v) := by simp [txL_map, List.map_set]
mutual
theorem emb_x : ∀ (τ : Ty) (v : τ.den), (emb τ v).x = embX τ v
  | .b, v => rfl
  | .i k, v => rfl
  | .u8, v => rfl
  | .s, v => rfl
  | .st c, v => by simp only [emb, embX, TX.x]; rw [embC_x c v]
  | .pr a c, v => by simp only [emb, embX, TX.x, txL]; rw [emb_x a v.1, embC_x c v.2]
  | .sl e, v => by simp [emb, embX, TX.x]
theorem embC_x : ∀ (τ : Ty) (v : τ.den), txL (embC τ v) = embXC τ v
  | .b, v => rfl
  | .i k, v => rfl
  | .u8, v => rfl
  | .s, v => rfl
  | .st c, v => by simp only [embC, embXC, txL, TX.x]; rw [embC_x c v]
  | .pr a c, v => by simp only [embC, embXC, txL]; rw [emb_x a v.1, embC_x c v.2]
  | .sl e, v => by simp [embC, embXC, txL, TX.x]
end
mutual
theorem embX_size : ∀ (τ : Ty) (v : τ.den), (embX τ v).size = τ.size
  | .b, v | .i k, v | .u8, v | .s, v | .sl e, v => by simp [embX, X.size, Ty.size]
  | .st c, v => by simp only [embX, X.size, Ty.size]; exact embXC_size c v
  | .pr a c, v => by simp only [embX, X.size, Ty.size, sizeL]; rw [embX_size a v.1, embXC_size c v.2]
theorem embXC_size : ∀ (τ : Ty) (v : τ.den), sizeL (embXC τ v) = τ.size
  | .b, v | .i k, v | .u8, v | .s, v | .sl e, v => by simp [embXC, sizeL, X.size, Ty.size]
  | .st c, v => by simp only [embXC, sizeL, X.size, Ty.size]; rw [embXC_size c v]; simp
  | .pr a c, v => by simp only [embXC, sizeL, Ty.size]; rw [embX_size a v.1, embXC_size c v.2]
end
theorem embX_agg (τ : Ty) (v : τ.den) : (embX τ v).agg = τ.agg := by cases τ <;> simp [embX, X.agg, Ty.agg]
theorem embX_tup (τ : Ty) (v : τ.den) : (embX τ v).isTup = false := by cases τ <;> simp [embX, X.isTup]
theorem embX_bot (τ : Ty) (v : τ.den) : (embX τ v).isBot = false := by cases τ <;> simp [embX, X.isBot]
mutual
theorem embX_fz : ∀ (τ : Ty) (v : τ.den), (embX τ v).fz = true
  | .b, v | .i k, v | .u8, v | .s, v | .sl e, v => by simp [embX, X.fz]
  | .st c, v => by simp only [embX, X.fz]; exact embXC_fz c v
  | .pr a c, v => by simp only [embX, X.fz, fzL]; rw [embX_fz a v.1, embXC_fz c v.2]; rfl
theorem embXC_fz : ∀ (τ : Ty) (v : τ.den), fzL (embXC τ v) = true
  | .b, v | .i k, v | .u8, v | .s, v | .sl e, v => by simp [embXC, fzL, X.fz]
  | .st c, v => by simp only [embXC, fzL, X.fz]; rw [embXC_fz c v]; rfl
  | .pr a c, v => by simp only [embXC, fzL]; rw [embX_fz a v.1, embXC_fz c v.2]; rfl
end
mutual
theorem embX_wk : ∀ (τ : Ty) (v : τ.den), (embX τ v).wk = embX τ v
  | .b, v | .i k, v | .u8, v | .s, v | .sl e, v => by simp [embX, X.wk]
  | .st c, v => by simp only [embX, X.wk]; rw [embXC_wk c v]
  | .pr a c, v => by simp only [embX, X.wk, wkL]; rw [embX_wk a v.1, embXC_wk c v.2]
theorem embXC_wk : ∀ (τ : Ty) (v : τ.den), wkL (embXC τ v) = embXC τ v
  | .b, v | .i k, v | .u8, v | .s, v | .sl e, v => by simp [embXC, wkL, X.wk]
  | .st c, v => by simp only [embXC, wkL, X.wk]; rw [embXC_wk c v]
  | .pr a c, v => by simp only [embXC, wkL]; rw [embX_wk a v.1, embXC_wk c v.2]
end
mutual
theorem embX_flat : ∀ (τ : Ty) (v : τ.den), τ.flat = true → (embX τ v).flat = true
  | .b, v, h | .i k, v, h | .u8, v, h | .s, v, h => by simp [embX, X.flat]
  | .st c, v, h => by simp only [embX, X.flat]; exact embXC_flat c v (by simpa [Ty.flat] using h)
  | .pr a c, v, h => by
    simp only [Ty.flat, Bool.and_eq_true] at h
    simp only [embX, X.flat, flatL]; rw [embX_flat a v.1 h.1, embXC_flat c v.2 h.2]; rfl
  | .sl e, v, h => by simp [Ty.flat] at h
theorem embXC_flat : ∀ (τ : Ty) (v : τ.den), τ.flat = true → flatL (embXC τ v) = true
  | .b, v, h | .i k, v, h | .u8, v, h | .s, v, h => by simp [embXC, flatL, X.flat]
  | .st c, v, h => by simp only [embXC, flatL, X.flat]; rw [embXC_flat c v (by simpa [Ty.flat] using h)]; rfl
  | .pr a c, v, h => by
    simp only [Ty.flat, Bool.and_eq_true] at h
    simp only [embXC, flatL]; rw [embX_flat a v.1 h.1, embXC_flat c v.2 h.2]; rfl
  | .sl e, v, h => by simp [Ty.flat] at h
end
theorem asTy_ok {σ τ : Ty} {vs : List σ.den} {us : List τ.den} (h : asTy σ vs τ = some us) : vs.map (embX σ) = us.map (embX τ) ∧ vs.length = us.length ∧ σ = τ := by
  unfold asTy at h
  split at h
  · rename_i e
    subst e
    cases h
    exact ⟨rfl, rfl, rfl⟩
  · cases h
theorem asTyB_ok {σ τ : Ty} {vs : List σ.den} {c : Bool} {us : (Ty.sl τ).den} (h : asTyB σ vs τ = some (c, us)) : vs.map (embX σ) = List.map (embX τ) us := by
  unfold asTyB at h
  split at h
  · rename_i us' hh
    cases h
    exact (asTy_ok hh).1
  · cases h
theorem u8_ok {n : Int} (h : (decide (0 ≤ n) && decide (n ≤ 255)) = true) : n = ((UInt8.ofNat n.toNat).toNat : Int) := by
  simp only [Bool.and_eq_true, decide_eq_true_eq] at h
  have : (UInt8.ofNat n.toNat).toNat = n.toNat := by
    rw [UInt8.toNat_ofNat']
    omega
  rw [this]; omega
theorem unB_ok {x : TX} {v : Bool} (h : unB x = some (true, v)) : x.x = .b v := by
  cases x <;> simp [unB] at h; subst h; rfl
theorem unI_ok {k : IntKind} {x : TX} {v : Int} (h : unI k x = some (true, v)) : x.x = .i k v := by
  cases x <;> simp [unI] at h; obtain ⟨rfl, rfl⟩ := h; rfl
theorem unU8_ok {x : TX} {v : UInt8} (h : unU8 x = some (true, v)) : x.x = .i .u8 v.toNat := by
  cases x <;> simp only [unU8, reduceCtorEq] at h
  split at h
  · rename_i hk
    subst hk
    simp only [Option.some.injEq, Prod.mk.injEq] at h
    obtain ⟨h1, rfl⟩ := h
    simp only [TX.x]
    rw [← u8_ok h1]
  · cases h
theorem unS_ok {x : TX} {v : List UInt8} (h : unS x = some (true, v)) : x.x = .s v := by
  cases x <;> simp [unS] at h; subst h; rfl
theorem unSl_ok {e : Ty} {x : TX} {v : List e.den} (h : unSl e x = some (true, v)) : x.x = .sl false (v.map (embX e)) := by
  cases x with
  | sl f τ vs =>
    cases f <;> simp only [unSl, reduceCtorEq] at h
    simp only [TX.x]
    rw [asTyB_ok h]
  | emp f =>
    cases f <;> simp only [unSl, reduceCtorEq, Option.some.injEq, Prod.mk.injEq] at h
    obtain ⟨_, rfl⟩ := h
    simp [TX.x]
  | _ => simp [unSl] at h
theorem agOf_ok {x : TX} {xs : List TX} (h : agOf x = some xs) : x.x = .ag (txL xs) := by
  cases x <;> simp [agOf] at h; subst h; rfl
theorem lone_ok {xs : List TX} {x : TX} (h : lone xs = some x) : xs = [x] := by
  match xs, h with
  | [y], h => simpa [lone] using h
  | [], h => simp [lone] at h
  | _ :: _ :: _, h => simp [lone] at h
theorem headT_ok {xs ys : List TX} {x : TX} (h : headT xs = some (x, ys)) : xs = x :: ys := by
  cases xs <;> simp [headT] at h; simpa using h
mutual
theorem unemb_ok : ∀ (τ : Ty) (x : TX) (v : τ.den), unemb τ x = some (true, v) → x.x = embX τ v
  | .b, x, v, h => unB_ok h
  | .i k, x, v, h => unI_ok h
  | .u8, x, v, h => unU8_ok h
  | .s, x, v, h => unS_ok h
  | .st c, x, v, h => by
    simp only [unemb] at h
    split at h
    · rename_i xs hx
      rw [agOf_ok hx]
      simp only [embX]
      rw [unembC_ok c _ v h]
    · cases h
  | .pr a c, x, v, h => by simp [unemb] at h
  | .sl e, x, v, h => unSl_ok h
theorem unembC_ok : ∀ (τ : Ty) (xs : List TX) (v : τ.den), unembC τ xs = some (true, v) → txL xs = embXC τ v
  | .b, xs, v, h => by
    simp only [unembC] at h
    split at h
    · rename_i x hx; rw [lone_ok hx]; simp only [txL, unB_ok h]; rfl
    · cases h
  | .i k, xs, v, h => by
    simp only [unembC] at h
    split at h
    · rename_i x hx; rw [lone_ok hx]; simp only [txL, unI_ok h]; rfl
    · cases h
  | .u8, xs, v, h => by simp [unembC] at h
  | .s, xs, v, h => by
    simp only [unembC] at h
    split at h
    · rename_i x hx; rw [lone_ok hx]; simp only [txL, unS_ok h]; rfl
    · cases h
  | .st c, xs, v, h => by
    simp only [unembC] at h
    split at h
    · rename_i x hx
      split at h
      · rename_i ys hy
        rw [lone_ok hx]; simp only [txL, agOf_ok hy, embXC]
        rw [unembC_ok c _ v h]
      · cases h
    · cases h
  | .pr a c, xs, v, h => by
    simp only [unembC] at h
    split at h
    · rename_i x ys hx
      split at h
      · rename_i p u h1
        split at h
        · rename_i q v' h2
          have h3 := congrArg (fun o => (o.getD (false, (u, v'))).1) h
          have h4 := congrArg (fun o => (o.getD (false, (u, v'))).2) h
          simp only [Option.getD_some, Bool.and_eq_true] at h3 h4
          obtain ⟨rfl, rfl⟩ := h3
          subst h4
          rw [headT_ok hx]
          simp only [txL, embXC]
          rw [unemb_ok a x u h1, unembC_ok c ys v' h2]
        · cases h
      · cases h
    · cases h
  | .sl e, xs, v, h => by
    simp only [unembC] at h
    split at h
    · rename_i x hx; rw [lone_ok hx]; simp only [txL, unSl_ok h]; rfl
    · cases h
end
/-! ### places -/
def navT : TX → List PStep → Option (Bool × TX)
  | x, [] => some (true, x)
  | .ag xs, .f j o :: ps => match xs[j]? with
    | some y => if tsizeL (xs.take j) = o then navT y ps else none
    | none => none
  | .ar d τ vs, .x i d' :: ps => if d' = d then (match navT (emb τ (List.getD vs i τ.dflt)) ps with
    | some (c, y) => some (c && decide (i < vs.length), y)
    | none => none) else none
  | _, _ :: _ => none
def setAtT : TX → List PStep → TX → Option (Bool × TX)
  | _, [], v => some (true, v)
  | .ag xs, .f j o :: ps, v => match xs[j]? with
    | some y => match setAtT y ps v with
      | some (c, z) => some (c, .ag (xs.set j z))
      | none => none
    | none => none
  | .ar d τ vs, .x i d' :: ps, v => match setAtT (emb τ (List.getD vs i τ.dflt)) ps v with
    | some (c, z) => match unemb τ z with
      | some (c', u) => some (c && c', .ar d τ (List.set vs i u))
      | none => none
    | none => none
  | _, _ :: _, _ => none
def PStep.isX : PStep → Bool
  | .x _ _ => true
  | .f _ _ => false
theorem getD_map {α β : Type} (f : α → β) {l : List α} {i : Nat} (a : α) (h : i < l.length) : (l.map f)[i]? = some (f (l.getD i a)) := by
  simp [List.getElem?_map, List.getD_eq_getElem?_getD, h]
theorem navT_ok : ∀ {ps : List PStep} {x y : TX}, navT x ps = some (true, y) → nav x.x (keysOf ps) = some (y.x, offOf ps)
  | [], x, y, h => by
    simp only [navT, Option.some.injEq, Prod.mk.injEq] at h
    obtain ⟨_, rfl⟩ := h
    simp [keysOf, nav, offOf]
  | .f j o :: ps, x, y, h => by
    cases x <;> simp only [navT, reduceCtorEq] at h
    rename_i xs
    split at h
    · rename_i z hz
      split at h
      · rename_i ho
        have ih := navT_ok h
        simp only [TX.x, keysOf, List.map_cons, PStep.key, nav, txL_get, hz, Option.map_some]
        rw [show ps.map PStep.key = keysOf ps from rfl, ih, txL_take, sizeL_x, ho]
        simp [offOf, PStep.off]
      · cases h
    · cases h
  | .x i d' :: ps, x, y, h => by
    cases x <;> simp only [navT, reduceCtorEq] at h
    rename_i d τ vs
    split at h
    · rename_i hd
      split at h
      · rename_i c z hz
        simp only [Option.some.injEq, Prod.mk.injEq, Bool.and_eq_true, decide_eq_true_eq] at h
        obtain ⟨⟨rfl, hi⟩, rfl⟩ := h
        have ih := navT_ok hz
        simp only [TX.x, keysOf, List.map_cons, PStep.key, nav, getD_map (embX τ) τ.dflt hi]
        rw [show ps.map PStep.key = keysOf ps from rfl, ← emb_x, ih]
        simp [offOf, PStep.off, hd]
      · cases h
    · cases h
theorem inAr_ok : ∀ {ps : List PStep} {x y : TX} {c : Bool}, navT x ps = some (c, y) → inAr x.x (keysOf ps) = ps.any PStep.isX
  | [], x, y, c, h => by simp [keysOf, inAr]
  | .f j o :: ps, x, y, c, h => by
    cases x <;> simp only [navT, reduceCtorEq] at h
    rename_i xs
    split at h
    · rename_i z hz
      split at h
      · have ih := inAr_ok h
        simp only [TX.x, keysOf, List.map_cons, PStep.key, inAr, txL_get, hz, Option.map_some, List.any_cons, PStep.isX, Bool.false_or]
        exact ih
      · cases h
    · cases h
  | .x i d' :: ps, x, y, c, h => by
    cases x <;> simp only [navT, reduceCtorEq] at h
    simp [TX.x, keysOf, PStep.key, inAr, PStep.isX]
theorem setAtT_ok : ∀ {ps : List PStep} {x y v z : TX}, navT x ps = some (true, y) → setAtT x ps v = some (true, z) → setAt x.x (keysOf ps) v.x = z.x
  | [], x, y, v, z, h, hs => by
    simp only [setAtT, Option.some.injEq, Prod.mk.injEq] at hs
    obtain ⟨_, rfl⟩ := hs
    simp [keysOf, setAt]
  | .f j o :: ps, x, y, v, z, h, hs => by
    cases x <;> simp only [navT, reduceCtorEq] at h
    rename_i xs
    split at h
    · rename_i u hu
      split at h
      · simp only [setAtT, hu] at hs
        split at hs
        · rename_i c w hw
          simp only [Option.some.injEq, Prod.mk.injEq] at hs
          obtain ⟨rfl, rfl⟩ := hs
          have ih := setAtT_ok h hw
          simp only [TX.x, keysOf, List.map_cons, PStep.key, setAt, txL_get, hu, Option.map_some]
          rw [show ps.map PStep.key = keysOf ps from rfl, ih, txL_set]
        · cases hs
      · cases h
    · cases h
  | .x i d' :: ps, x, y, v, z, h, hs => by
    cases x <;> simp only [navT, reduceCtorEq] at h
    rename_i d τ vs
    split at h
    · split at h
      · rename_i c u hu
        simp only [Option.some.injEq, Prod.mk.injEq, Bool.and_eq_true, decide_eq_true_eq] at h
        obtain ⟨⟨rfl, hi⟩, rfl⟩ := h
        simp only [setAtT] at hs
        split at hs
        · rename_i c w hw
          split at hs
          · rename_i c' q hq
            simp only [Option.some.injEq, Prod.mk.injEq, Bool.and_eq_true] at hs
            obtain ⟨⟨rfl, rfl⟩, rfl⟩ := hs
            have ih := setAtT_ok hu hw
            simp only [TX.x, keysOf, List.map_cons, PStep.key, setAt, getD_map (embX τ) τ.dflt hi]
            rw [show ps.map PStep.key = keysOf ps from rfl, ← emb_x, ih, unemb_ok τ w q hq, List.map_set]
          · cases hs
        · cases hs
      · cases h
    · cases h
end Go.EV
