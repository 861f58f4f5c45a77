/- What a quiet operation computes on typed values: what is built, cut, converted. -/
import Derived.Test.YtfadalgikdffeaaGreatTv3
set_option linter.unusedVariables false
set_option linter.unusedSimpArgs false
namespace Go.EV
open Go.RowKit
mutual
def xt : X → Option TX
  | .b v => some (.b v) | .i k n => some (.i k n) | .s l => some (.s l) | .np => some .np | .nm => some .nm | .nf => some .nf
  | .sl f xs => if xs.isEmpty then some (.emp f) else none
  | .ag xs => match xtL xs with
    | some ys => some (.ag ys)
    | none => none
  | .bot | .tup _ | .ar _ _ | .hw _ | .hd _ _ _ _ | .pt _ _ _ | .pf _ | .fn _ _ | .ow _ _ | .ob _ => none
def xtL : List X → Option (List TX)
  | [] => some []
  | x :: xs => match xt x with
    | some y => match xtL xs with
      | some ys => some (y :: ys)
      | none => none
    | none => none
end
mutual
theorem xt_ok : ∀ {x : X} {y : TX}, xt x = some y → y.x = x
  | .b v, y, h | .i k n, y, h | .s l, y, h | .np, y, h | .nm, y, h | .nf, y, h => by
    simp only [xt, Option.some.injEq] at h
    subst h
    simp [TX.x]
  | .sl f xs, y, h => by
    simp only [xt] at h
    split at h
    · rename_i hx
      cases h
      simp only [List.isEmpty_iff] at hx
      simp [TX.x, hx]
    · cases h
  | .ag xs, y, h => by
    simp only [xt] at h
    split at h
    · rename_i ys hy
      cases h
      simp only [TX.x, xtL_ok hy]
    · cases h
  | .bot, y, h | .tup _, y, h | .ar _ _, y, h | .hw _, y, h | .hd _ _ _ _, y, h | .pt _ _ _, y, h | .pf _, y, h | .fn _ _, y, h | .ow _ _, y, h | .ob _, y, h => by simp [xt] at h
theorem xtL_ok : ∀ {xs : List X} {ys : List TX}, xtL xs = some ys → txL ys = xs
  | [], ys, h => by simp only [xtL, Option.some.injEq] at h; subst h; rfl
  | x :: xs, ys, h => by
    simp only [xtL] at h
    split at h
    · rename_i y hy
      split at h
      · rename_i zs hz
        cases h
        simp only [txL, xt_ok hy, xtL_ok hz]
      · cases h
    · cases h
end
/-- All of a type. -/
def unAll (τ : Ty) : List TX → Option (Bool × List τ.den)
  | [] => some (true, [])
  | x :: xs => match unemb τ x with
    | some (p, u) => match unAll τ xs with
      | some (q, us) => some (p && q, u :: us)
      | none => none
    | none => none
theorem unAll_ok {τ : Ty} : ∀ {xs : List TX} {us : List τ.den}, unAll τ xs = some (true, us) → txL xs = us.map (embX τ)
  | [], us, h => by simp only [unAll, Option.some.injEq, Prod.mk.injEq, true_and] at h; subst h; rfl
  | x :: xs, us, h => by
    simp only [unAll] at h
    split at h
    · rename_i p u hu
      split at h
      · rename_i q vs hv
        simp only [Option.some.injEq, Prod.mk.injEq, Bool.and_eq_true] at h
        obtain ⟨⟨rfl, rfl⟩, rfl⟩ := h
        simp only [txL, List.map_cons, unemb_ok τ x u hu, unAll_ok hv]
      · cases h
    · cases h
/-- The zero value of a type. -/
def zeroT (T : TT) (Y : Nat → Option Ty) (t : Nat) : Option TX :=
  match T t with
  | some { td := .arr _ e, zero := .ar d zs, .. } => match Y e, xtL zs with
    | some τ, some ys => match unAll τ (twkL ys) with
      | some (true, us) => some (.ar d τ us)
      | _ => none
    | _, _ => none
  | some ti => xt ti.zero
  | none => none
theorem zeroT_ok {T : TT} {Y : Nat → Option Ty} {t : Nat} {z : TX} (h : zeroT T Y t = some z) : ∃ ti, T t = some ti ∧ z.x = ti.zero.wkA := by
  unfold zeroT at h
  split at h
  · rename_i m e s b d zs ht
    split at h
    · rename_i τ ys hy hz
      split at h
      · rename_i us hu
        cases h
        refine ⟨_, ht, ?_⟩
        simp only [TX.x, X.wkA, ← unAll_ok hu, wkL_x, xtL_ok hz]
      · cases h
    · cases h
  · rename_i ti _ ht
    refine ⟨ti, ht, ?_⟩
    have h1 := xt_ok h
    rw [h1]
    cases hz : ti.zero with
    | ar d zs => rw [hz] at h; simp [xt] at h
    | _ => rfl
  · cases h
def elem0 (T : TT) (e : Nat) (τ : Ty) : Option τ.den :=
  match T e with
  | some ei => match xt ei.zero with
    | some z => match unemb τ z.wk with
      | some (true, v) => some v
      | _ => none
    | none => none
  | none => none
theorem elem0_ok {T : TT} {e : Nat} {τ : Ty} {v : τ.den} {ei : TI} (he : T e = some ei) (h : elem0 T e τ = some v) : embX τ v = ei.zero.wk := by
  unfold elem0 at h
  rw [he] at h
  simp only at h
  split at h
  · rename_i z hz
    split at h
    · rename_i u hu
      cases h
      rw [← unemb_ok τ _ _ hu, wk_x, xt_ok hz]
    · cases h
  · cases h
def fillT (xs : List TX) : List (Nat × TX) → Option (List TX)
  | [] => some xs
  | (j, v) :: ps => match xs[j]? with
    | some old => if v.size = old.size ∧ v.isBot = false ∧ v.isTup = false then fillT (xs.set j v) ps else none
    | none => none
theorem fillT_ok : ∀ {ps : List (Nat × TX)} {xs ys : List TX}, fillT xs ps = some ys → fillX (txL xs) (ps.map fun p => (p.1, p.2.x)) = some (txL ys)
  | [], xs, ys, h => by simp only [fillT, Option.some.injEq] at h; subst h; rfl
  | (j, v) :: ps, xs, ys, h => by
    simp only [fillT] at h
    split at h
    · rename_i old ho
      split at h
      · rename_i hh
        simp only [List.map_cons, fillX, txL_get, ho, Option.map_some, size_x, bot_x, tup_x, hh, and_self, if_true, txL_set]
        exact fillT_ok h
      · cases h
    · cases h
theorem zip_x (ks : List Nat) (xs : List TX) : ks.zip (txL xs) = (ks.zip xs).map fun p => (p.1, p.2.x) := by
  induction ks generalizing xs with
  | nil => simp
  | cons k ks ih =>
    cases xs with
    | nil => simp [txL]
    | cons x xs => simp [txL, ih]
def buildT (T : TT) (Y : Nat → Option Ty) (t : Nat) (ks : List Nat) (xs : List TX) : CT :=
  match zeroT T Y t with
  | some (.ag zs) => match fillT zs (ks.zip xs) with
    | some ys => some (true, .ag ys)
    | none => none
  | _ => none
theorem buildT_ok {T : TT} {Y : Nat → Option Ty} {t : Nat} {ks : List Nat} {xs : List TX} {z : TX} (h : buildT T Y t ks xs = some (true, z)) : buildX T t ks (txL xs) = some z.x := by
  unfold buildT at h
  split at h
  · rename_i zs hz
    split at h
    · rename_i ys hy
      simp only [Option.some.injEq, Prod.mk.injEq, true_and] at h
      subst h
      obtain ⟨ti, ht, h2⟩ := zeroT_ok hz
      simp only [TX.x] at h2
      have h3 : ti.zero = .ag (txL zs) := by
        cases hzz : ti.zero with
        | ar d ys => rw [hzz] at h2; simp [X.wkA] at h2
        | ag ys => rw [hzz] at h2; simpa [X.wkA] using h2.symm
        | _ => rw [hzz] at h2; simp [X.wkA] at h2
      simp only [buildX, ht, h3, zip_x, fillT_ok hy, Option.map_some, TX.x]
    · cases h
  · cases h
theorem fillX_all {z : X} : ∀ (xs pre : List X), (∀ x ∈ xs, x.size = z.size ∧ x.isBot = false ∧ x.isTup = false) → fillX (pre ++ List.replicate xs.length z) ((List.range' pre.length xs.length).zip xs) = some (pre ++ xs)
  | [], pre, h => by simp [fillX]
  | x :: xs, pre, h => by
    obtain ⟨h1, h2, h3⟩ := h x (by simp)
    have ih := fillX_all xs (pre ++ [x]) (fun y hy => h y (by simp [hy]))
    simp only [List.length_append, List.length_cons, List.length_nil, List.append_assoc, List.singleton_append] at ih
    simp only [List.length_cons, List.range'_succ, List.zip_cons_cons, fillX, List.replicate_succ]
    rw [List.getElem?_append_right (Nat.le_refl _)]
    simp only [Nat.sub_self, List.getElem?_cons_zero, h1, h2, h3, and_self, if_true]
    rw [List.set_append_right _ _ (Nat.le_refl _)]
    simp only [Nat.sub_self, List.set_cons_zero]
    simpa using ih
abbrev QT := Option (Bool × TX × List (Nat × TX) × List Nat)
def qt : CT → QT
  | some (c, x) => some (c, x, [], [])
  | none => none
def newsX (l : List (Nat × TX)) : List (Nat × X) := l.map fun p => (p.1, p.2.x)
def buildSlT (T : TT) (Y : Nat → Option Ty) (r : Nat → Option TX) (dst t n : Nat) (ks : List Nat) (xs : List TX) : QT :=
  match T t with
  | some { td := .sl e, .. } => match T e, Y e with
    | some ei, some τ => if n = 0 ∧ ks = [] then some (true, .hw dst, [(dst, .ar ei.size τ [])], []) else match frzTL r xs with
      | some xs' => if n ≤ 1000 ∧ 0 < ei.size ∧ ei.size ≤ 1000 ∧ 0 < n ∧ ks = List.range' 0 n ∧ xs.length = n ∧ ei.zero.size = τ.size then (match unAll τ (twkL xs') with
        | some (c, us) => some (c, .hw dst, [(dst, .ar ei.size τ us)], trefsL xs)
        | none => none) else none
      | none => none
    | _, _ => none
  | _ => none
theorem frzTL_len {r : Nat → Option TX} : ∀ {xs ys : List TX}, frzTL r xs = some ys → ys.length = xs.length
  | [], ys, h => by simp only [frzTL, Option.some.injEq] at h; subst h; rfl
  | x :: xs, ys, h => by
    simp only [frzTL] at h
    split at h
    · split at h
      · rename_i zs hz
        cases h
        simp [frzTL_len hz]
      · cases h
    · cases h
theorem twkL_len : ∀ xs : List TX, (twkL xs).length = xs.length
  | [] => rfl
  | x :: xs => by simp [twkL, twkL_len xs]
theorem buildSlT_ok {T : TT} {Y : Nat → Option Ty} {r : Nat → Option TX} {dst t n : Nat} {ks : List Nat} {xs : List TX} {z : TX} {news : List (Nat × TX)} {fl : List Nat} (h : buildSlT T Y r dst t n ks xs = some (true, z, news, fl)) : buildSlX T (rX r) dst t n ks (txL xs) = some (z.x, newsX news, fl) := by
  unfold buildSlT at h
  unfold buildSlX
  split at h
  · rename_i e _ _ _ ht
    simp only [ht]
    split at h
    · rename_i ei τ he hY
      simp only [he]
      split at h
      · rename_i hn
        cases h
        rw [if_pos hn]
        simp [newsX, TX.x]
      · rename_i hn
        rw [if_neg hn]
        split at h
        · rename_i xs' hx
          have hf : frwL (rX r) (txL xs) = some (txL (twkL xs')) := by simp only [frwL, frzTL_ok hx, Option.map_some, wkL_x]
          simp only [hf]
          split at h
          · rename_i hh
            obtain ⟨h1, h2, h3, h4, rfl, h5, h6⟩ := hh
            simp only [h1, h2, h3, h4, and_self, if_true]
            split at h
            · rename_i c us hu
              simp only [Option.some.injEq, Prod.mk.injEq] at h
              obtain ⟨rfl, rfl, rfl, rfl⟩ := h
              have hlen : (txL (twkL xs')).length = n := by rw [txL_len, twkL_len, frzTL_len hx, h5]
              have key := fillX_all (z := ei.zero.wk) (txL (twkL xs')) [] (fun x hx => by
                rw [unAll_ok hu] at hx
                obtain ⟨u, _, rfl⟩ := List.mem_map.1 hx
                exact ⟨by rw [embX_size, wk_size, h6], embX_bot _ _, embX_tup _ _⟩)
              rw [hlen] at key
              simp only [List.nil_append, List.length_nil] at key
              rw [key]
              simp only [newsX, List.map_cons, List.map_nil, TX.x, unAll_ok hu, refsL_x]
            · cases h
          · cases h
        · cases h
    · cases h
  · cases h
def bytesOf (l : List UInt8) : List (Ty.den .u8) := l
def convT (T : TT) (r : Nat → Option TX) (dst src t : Nat) (x : TX) : QT :=
  match tdOf T src, tdOf T t with
  | some (.int _), some (.int k) => match x with
    | .i _ n => some (true, .i k (k.wrap n), [], [])
    | _ => none
  | some (.int _), some .str => match x with
    | .i _ n => some (decide (0 ≤ n ∧ n < 128), .s [UInt8.ofNat n.toNat], [], [])
    | _ => none
  | some .str, some .str => match x with
    | .s l => some (true, .s l, [], [])
    | _ => none
  | some .str, some (.sl e) => match x with
    | .s l => if tdOf T e = some (.int .u8) then some (decide (l.length ≤ 2147483647), .hw dst, [(dst, .ar 1 .u8 l)], []) else none
    | _ => none
  | some (.sl e), some .str => if tdOf T e = some (.int .u8) then (match x with
    | .emp _ => some (true, .s [], [], [])
    | x => match elemsT r x with
      | some ⟨.u8, c⟩ => some (true, .s c, [], [])
      | _ => none) else none
  | _, _ => none
theorem toBytes_u8 (l : List (Ty.den .u8)) : toBytes (l.map (embX .u8)) = some l := by
  induction l with
  | nil => rfl
  | cons c l ih =>
    rw [List.map_cons]
    show (toBytes (List.map (embX .u8) l)).map (UInt8.ofNat (Int.toNat (UInt8.toNat c : Int)) :: ·) = _
    rw [ih]
    show some (UInt8.ofNat (Int.toNat (UInt8.toNat c : Int)) :: l) = some (c :: l)
    have : ∀ d : UInt8, UInt8.ofNat (Int.toNat (UInt8.toNat d : Int)) = d := by intro d; simp
    rw [this c]
    rfl
theorem convT_ok {T : TT} {r : Nat → Option TX} {dst src t : Nat} {x z : TX} {news : List (Nat × TX)} {fl : List Nat} (h : convT T r dst src t x = some (true, z, news, fl)) : convX T (rX r) dst src t x.x = some (z.x, newsX news, fl) := by
  unfold convT at h
  unfold convX
  split at h
  · rename_i h1 h2
    simp only [h1, h2]
    split at h
    · cases h; simp [TX.x, intX, q1, newsX]
    · cases h
  · rename_i h1 h2
    simp only [h1, h2]
    split at h
    · simp only [Option.some.injEq, Prod.mk.injEq, decide_eq_true_eq] at h
      obtain ⟨h3, rfl, rfl, rfl⟩ := h
      simp [TX.x, intX, q1, newsX, h3]
    · cases h
  · rename_i h1 h2
    simp only [h1, h2]
    split at h
    · cases h; simp [TX.x, q1, newsX]
    · cases h
  · rename_i h1 h2
    simp only [h1, h2]
    split at h
    · split at h
      · rename_i he
        simp only [Option.some.injEq, Prod.mk.injEq, decide_eq_true_eq] at h
        obtain ⟨h3, rfl, rfl, rfl⟩ := h
        simp only [TX.x, he, small, decide_eq_true_eq, h3, and_self, if_true, newsX, List.map_cons, List.map_nil]
        rfl
      · cases h
    · cases h
  · rename_i h1 h2
    simp only [h1, h2]
    split at h
    · rename_i he
      rw [if_pos he]
      split at h
      · cases h; simp [TX.x, elems, q1, toBytes, newsX]
      · split at h
        · rename_i c hc
          simp only [Option.some.injEq, Prod.mk.injEq, true_and] at h
          obtain ⟨rfl, rfl, rfl⟩ := h
          have hb := toBytes_u8 c
          simp only [elemsT_ok hc, q1, TX.x, newsX, List.map_nil]
          erw [hb]
          rfl
        · cases h
    · cases h
  · cases h
def makeSlT (T : TT) (Y : Nat → Option Ty) (dst t : Nat) (l c : Int) : QT :=
  match T t with
  | some { td := .sl e, .. } => match T e, Y e with
    | some ei, some τ => match elem0 T e τ with
      | some v => if ei.bytes ≤ 65536 ∧ 0 < ei.size then some (decide (0 ≤ l) && decide (l ≤ c) && decide (c ≤ 2147483647), .hw dst, [(dst, .ar ei.size τ (List.replicate l.toNat v))], []) else none
      | none => none
    | _, _ => none
  | _ => none
theorem makeSlT_ok {T : TT} {Y : Nat → Option Ty} {dst t : Nat} {l c : Int} {z : TX} {news : List (Nat × TX)} {fl : List Nat} (h : makeSlT T Y dst t l c = some (true, z, news, fl)) : makeSlX T dst t l c = some (z.x, newsX news, fl) := by
  unfold makeSlT at h
  unfold makeSlX
  split at h
  · rename_i e _ _ _ ht
    simp only [ht]
    split at h
    · rename_i ei τ he hY
      simp only [he]
      split at h
      · rename_i v hv
        split at h
        · rename_i hh
          simp only [Option.some.injEq, Prod.mk.injEq, Bool.and_eq_true, decide_eq_true_eq] at h
          obtain ⟨⟨⟨h1, h2⟩, h3⟩, rfl, rfl, rfl⟩ := h
          simp [h1, h2, h3, hh, newsX, TX.x, elem0_ok he hv]
        · cases h
      · cases h
    · cases h
  · cases h
def boundsT (n : Nat) (lo hi : Option TX) : Option (Bool × Nat × Nat) :=
  match hi with
  | none => match lo with
    | none => some (true, 0, n)
    | some (.i _ l) => some (decide (0 ≤ l) && decide (l ≤ n), l.toNat, n)
    | some _ => none
  | some (.i _ h) => match lo with
    | none => some (decide (0 ≤ h) && decide (h ≤ n), 0, h.toNat)
    | some (.i _ l) => some (decide (0 ≤ h) && decide (h ≤ n) && (decide (0 ≤ l) && decide (l ≤ h)), l.toNat, h.toNat)
    | some _ => none
  | some _ => none
def ox : Option TX → Option X
  | none => none
  | some x => some x.x
theorem boundsT_ok {n a b : Nat} {lo hi : Option TX} (h : boundsT n lo hi = some (true, a, b)) : bounds n (ox lo) (ox hi) = some (a, b) := by
  unfold boundsT at h
  unfold bounds
  split at h
  · split at h
    · cases h; simp [ox]
    · simp only [Option.some.injEq, Prod.mk.injEq, Bool.and_eq_true, decide_eq_true_eq] at h
      obtain ⟨⟨h1, h2⟩, rfl, rfl⟩ := h
      simp [ox, TX.x, h1, h2]
    · cases h
  · split at h
    · simp only [Option.some.injEq, Prod.mk.injEq, Bool.and_eq_true, decide_eq_true_eq] at h
      obtain ⟨⟨h1, h2⟩, rfl, rfl⟩ := h
      simp [ox, TX.x, h1, h2]
    · simp only [Option.some.injEq, Prod.mk.injEq, Bool.and_eq_true, decide_eq_true_eq] at h
      obtain ⟨⟨⟨h1, h2⟩, h3, h4⟩, rfl, rfl⟩ := h
      simp only [ox, TX.x, h1, h2, and_self, if_true, h3, true_and]
      rw [if_pos (by omega)]
    · cases h
  · cases h
def maxOkT (hi : Option TX) (h : Nat) : Option TX → Option (Bool × Bool)
  | none => some (true, false)
  | some (.i _ m) => if hi.isSome then some (decide (m = h), true) else none
  | some _ => none
theorem maxOkT_ok {hi mx : Option TX} {h : Nat} {m : Bool} (hh : maxOkT hi h mx = some (true, m)) : maxOk (ox hi) h (ox mx) = some m := by
  unfold maxOkT at hh
  split at hh
  · cases hh; rfl
  · split at hh
    · rename_i hs
      simp only [Option.some.injEq, Prod.mk.injEq, decide_eq_true_eq] at hh
      obtain ⟨h1, rfl⟩ := hh
      have : (ox hi).isSome = true := by cases hi <;> simp_all [ox]
      show maxOk (ox hi) h (some (X.i _ _)) = _
      simp only [maxOk, h1, this, and_self, if_true]
    · cases hh
  · cases hh
theorem ox_none (o : Option TX) : (ox o).isNone = o.isNone := by cases o <;> rfl
def cutT (r : Nat → Option TX) (es : Nat) (x : TX) (lo hi mx : Option TX) : CT :=
  match x with
  | .sl f τ vs => match boundsT vs.length lo hi with
    | some (c, a, b) => match maxOkT hi b mx with
      | some (c', m) => if τ.size = es then some (c && c', .sl (m || (f && hi.isNone)) τ ((List.take b vs).drop a)) else none
      | none => none
    | none => none
  | .hw g => match r g with
    | some (.ar d τ vs) => match boundsT vs.length lo hi with
      | some (c, a, b) => match maxOkT hi b mx with
        | some (c', m) => if d = es then some (c && c', if (lo.isNone && hi.isNone && !m) = true then .hw g else .hd g a (b - a) m) else none
        | none => none
      | none => none
    | _ => none
  | .hd g l0 n f => match r g with
    | some (.ar d _ _) => match boundsT n lo hi with
      | some (c, a, b) => match maxOkT hi b mx with
        | some (c', m) => if d = es then some (c && c', .hd g (l0 + a) (b - a) (m || (f && hi.isNone))) else none
        | none => none
      | none => none
    | _ => none
  | _ => none
theorem cutT_ok {r : Nat → Option TX} {es : Nat} {x z : TX} {lo hi mx : Option TX} (h : cutT r es x lo hi mx = some (true, z)) : cut (rX r) es x.x (ox lo) (ox hi) (ox mx) = some z.x := by
  unfold cutT at h
  split at h
  · rename_i f τ vs
    split at h
    · rename_i c a b hb
      split at h
      · rename_i c' m hm
        split at h
        · rename_i hs
          simp only [Option.some.injEq, Prod.mk.injEq, Bool.and_eq_true] at h
          obtain ⟨⟨rfl, rfl⟩, rfl⟩ := h
          simp only [TX.x, cut, List.length_map, boundsT_ok hb, maxOkT_ok hm, ox_none]
          rw [if_pos (by simp [List.all_eq_true, embX_size, hs]), List.map_drop, List.map_take]
        · cases h
      · cases h
    · cases h
  · rename_i g
    split at h
    · rename_i d τ vs hg
      split at h
      · rename_i c a b hb
        split at h
        · rename_i c' m hm
          split at h
          · rename_i hs
            simp only [Option.some.injEq, Prod.mk.injEq] at h
            obtain ⟨hc, rfl⟩ := h
            rw [Bool.and_eq_true] at hc
            obtain ⟨rfl, rfl⟩ := hc
            have hg' : rX r g = some (.ar d (vs.map (embX τ))) := by simp [rX, hg, TX.x]
            simp only [TX.x, cut, hg', List.length_map, boundsT_ok hb, maxOkT_ok hm, ox_none, hs, if_true]
            cases (lo.isNone && hi.isNone && !m) <;> rfl
          · cases h
        · cases h
      · cases h
    · cases h
  · rename_i g l0 n f
    split at h
    · rename_i d τ vs hg
      split at h
      · rename_i c a b hb
        split at h
        · rename_i c' m hm
          split at h
          · rename_i hs
            simp only [Option.some.injEq, Prod.mk.injEq, Bool.and_eq_true] at h
            obtain ⟨⟨rfl, rfl⟩, rfl⟩ := h
            have hg' : rX r g = some (.ar d (vs.map (embX τ))) := by simp [rX, hg, TX.x]
            simp only [TX.x, cut, hg', boundsT_ok hb, maxOkT_ok hm, ox_none, hs, if_true]
          · cases h
        · cases h
      · cases h
    · cases h
  · cases h
def cutST (l : List UInt8) (lo hi mx : Option TX) : CT :=
  match mx, boundsT l.length lo hi with
  | none, some (c, a, b) => some (c, .s ((l.take b).drop a))
  | _, _ => none
theorem cutST_ok {l : List UInt8} {lo hi mx : Option TX} {z : TX} (h : cutST l lo hi mx = some (true, z)) : cutS l (ox lo) (ox hi) (ox mx) = some z.x := by
  unfold cutST at h
  split at h
  · rename_i c a b hb
    simp only [Option.some.injEq, Prod.mk.injEq] at h
    obtain ⟨rfl, rfl⟩ := h
    show cutS l (ox lo) (ox hi) none = _
    simp only [cutS, boundsT_ok hb, TX.x]
  · cases h
def optT : Option Operand → List TX → Option TX × List TX
  | none, xs => (none, xs)
  | some _, x :: xs => (some x, xs)
  | some _, [] => (none, [])
theorem optT_ok (o : Option Operand) (xs : List TX) : optX o (txL xs) = (ox (optT o xs).1, txL (optT o xs).2) := by
  cases o <;> cases xs <;> simp [optX, optT, txL, ox]
def sliceT (T : TT) (r : Nat → Option TX) (t : Nat) (lo hi mx : Option Operand) (xs : List TX) : QT :=
  match xs with
  | x :: xs => match T t with
    | some { td := .str, .. } => match x with
      | .s l => qt (cutST l (optT lo xs).1 (optT hi (optT lo xs).2).1 (optT mx (optT hi (optT lo xs).2).2).1)
      | _ => none
    | some { td := .sl e, .. } => match T e with
      | some ei => qt (cutT r ei.size x (optT lo xs).1 (optT hi (optT lo xs).2).1 (optT mx (optT hi (optT lo xs).2).2).1)
      | none => none
    | _ => none
  | [] => none
theorem qt_some {q : CT} {x : TX} {news : List (Nat × TX)} {fl : List Nat} (h : qt q = some (true, x, news, fl)) : q = some (true, x) ∧ news = [] ∧ fl = [] := by
  unfold qt at h
  split at h
  · cases h; exact ⟨rfl, rfl, rfl⟩
  · cases h
theorem sliceT_ok {T : TT} {r : Nat → Option TX} {t : Nat} {lo hi mx : Option Operand} {xs : List TX} {z : TX} {news : List (Nat × TX)} {fl : List Nat} (h : sliceT T r t lo hi mx xs = some (true, z, news, fl)) : sliceX T (rX r) t lo hi mx (txL xs) = some (z.x, newsX news, fl) := by
  unfold sliceT at h
  split at h
  · rename_i x ys
    unfold sliceX
    simp only [txL, optT_ok]
    split at h
    · rename_i ht
      simp only [ht]
      split at h
      · obtain ⟨h1, rfl, rfl⟩ := qt_some h
        simp [TX.x, cutST_ok h1, q1, newsX]
      · cases h
    · rename_i e _ _ _ ht
      simp only [ht]
      split at h
      · rename_i ei he
        obtain ⟨h1, rfl, rfl⟩ := qt_some h
        simp [he, cutT_ok h1, q1, newsX]
      · cases h
    · cases h
  · cases h
def lenVT (T : TT) (r : Nat → Option TX) (t : Option Nat) (x : TX) : CT :=
  match t.bind (fun t => tdOf T t) with
  | some (.sl _) => match x with
    | .s _ => none
    | x => match lenT r x with
      | some n => some (true, .i .i64 n)
      | none => none
  | some .str => match x with
    | .s l => some (true, .i .i64 l.length)
    | _ => none
  | _ => none
theorem lenVT_ok {T : TT} {r : Nat → Option TX} {t : Option Nat} {x z : TX} (h : lenVT T r t x = some (true, z)) : lenV T (rX r) t x.x = some z.x := by
  unfold lenVT at h
  unfold lenV
  split at h
  · rename_i ht
    simp only [ht]
    split at h
    · cases h
    · rename_i hs
      split at h
      · rename_i n hn
        cases h
        have hl := lenT_ok hn
        cases x <;> simp only [TX.x] at hl ⊢ <;> first | (rw [hl]; simp) | exact (hs _ rfl).elim
      · cases h
  · rename_i ht
    simp only [ht]
    split at h
    · cases h; simp [TX.x]
    · cases h
  · cases h
end Go.EV
