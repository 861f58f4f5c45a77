/- What a quiet operation computes on typed values. -/
import Derived.Test.YtfadalgikdffeaaGreatTv2
set_option linter.unusedVariables false
set_option linter.unusedSimpArgs false
namespace Go.EV
open Go.RowKit
abbrev CT := Option (Bool × TX)
def ofConstT : Value → TX
  | .bool v => .b v
  | .int k n => .i k n
  | .string s => .s s.data.toList
  | .slice none 0 0 => .emp true
  | .pointer none => .np
  | .map none => .nm
  | .nilFunc => .nf
  | _ => .bot
theorem ofConst_x (v : Value) : (ofConstT v).x = ofConst v := by
  unfold ofConstT ofConst
  split <;> simp [TX.x]
def TS.ev (S : TS) : Operand → TX
  | .tmp t => S.t t
  | .const v => ofConstT v
  | .func f => .fn f []
  | .global _ => .bot
theorem ev_x (S : TS) (o : Operand) : (S.ev o).x = S.x.ev o := by
  cases o <;> simp [TS.ev, St.ev, TS.x, ofConst_x, TX.x, txL]
def arithT (op : BinOp) (k : IntKind) (a b : Int) : CT :=
  match op with
  | .add => some (true, .i k (k.wrap (a + b)))
  | .sub => some (true, .i k (k.wrap (a - b)))
  | .mul => some (true, .i k (k.wrap (a * b)))
  | .quo => some (!decide (b = 0), .i k (k.wrap (a.tdiv b)))
  | .rem => some (!decide (b = 0), .i k (a.tmod b))
  | .and => some (true, .i k (k.wrap (BitVec.ofInt k.bits a &&& BitVec.ofInt k.bits b).toNat))
  | .or => some (true, .i k (k.wrap (BitVec.ofInt k.bits a ||| BitVec.ofInt k.bits b).toNat))
  | .xor => some (true, .i k (k.wrap (BitVec.ofInt k.bits a ^^^ BitVec.ofInt k.bits b).toNat))
  | .andNot => some (true, .i k (k.wrap (BitVec.ofInt k.bits a &&& ~~~ BitVec.ofInt k.bits b).toNat))
  | .eql => some (true, .b (a == b))
  | .neq => some (true, .b (a != b))
  | .lss => some (true, .b (decide (a < b)))
  | .leq => some (true, .b (decide (a ≤ b)))
  | .gtr => some (true, .b (decide (a > b)))
  | .geq => some (true, .b (decide (a ≥ b)))
  | _ => none
def stropT (op : BinOp) (a b : List UInt8) : CT :=
  match op with
  | .add => some (decide (a.length + b.length ≤ 2147483647), .s (a ++ b))
  | .eql => some (true, .b (a == b))
  | .neq => some (true, .b !(a == b))
  | .lss => some (true, .b (Op.bytesLess a b))
  | .leq => some (true, .b (Op.bytesLess a b || a == b))
  | .gtr => some (true, .b !(Op.bytesLess a b || a == b))
  | .geq => some (true, .b !(Op.bytesLess a b))
  | _ => none
def ptrEqT : TX → TX → Option Bool
  | .np, .np => some true
  | .np, .pt _ _ => some false
  | .np, .pf _ => some false
  | .pt _ _, .np => some false
  | .pf _, .np => some false
  | _, _ => none
def ptrBinT (td : Option TD) (op : BinOp) (q : Option Bool) : CT :=
  match td with
  | some (.pt _) => match q with
    | some r => match op with
      | .eql => some (true, .b r)
      | .neq => some (true, .b !r)
      | _ => none
    | none => none
  | _ => none
def binvT (T : TT) (op : BinOp) (t : TypeId) : TX → TX → CT
  | .i k a, .i k' b => match op with
    | .shl => some (!decide (b < 0), .i k (k.wrap (a * 2 ^ (min b.toNat k.bits))))
    | .shr => some (!decide (b < 0), .i k (a.fdiv (2 ^ (min b.toNat k.bits))))
    | _ => if k = k' then arithT op k a b else none
  | .s a, .s b => stropT op a b
  | .b a, .b b => if tdOf T t = some .bool then (match op with
    | .eql => some (true, .b (a == b))
    | .neq => some (true, .b !(a == b))
    | _ => none) else none
  | x, y => ptrBinT (tdOf T t) op (ptrEqT x y)
theorem arithT_ok {op : BinOp} {k : IntKind} {a b : Int} {z : TX} (h : arithT op k a b = some (true, z)) : arith op k a b = some z.x := by
  cases op <;> simp only [arithT, Option.some.injEq, Prod.mk.injEq, true_and, reduceCtorEq, Bool.not_eq_true', decide_eq_false_iff_not] at h
  case quo => obtain ⟨h1, rfl⟩ := h; simp [arith, h1, TX.x]
  case rem => obtain ⟨h1, rfl⟩ := h; simp [arith, h1, TX.x]
  all_goals (subst h; simp [arith, TX.x])
theorem stropT_ok {op : BinOp} {a b : List UInt8} {z : TX} (h : stropT op a b = some (true, z)) : strop op a b = some z.x := by
  cases op <;> simp only [stropT, Option.some.injEq, Prod.mk.injEq, true_and, reduceCtorEq, decide_eq_true_eq] at h
  case add => obtain ⟨h1, rfl⟩ := h; simp [strop, h1, TX.x]
  all_goals (subst h; simp [strop, TX.x])
theorem ptrEqT_ok (x y : TX) {r : Bool} (h : ptrEqT x y = some r) : ptrEq x.x y.x = some r := by
  cases x <;> cases y <;> simp [ptrEqT] at h <;> subst h <;> simp [ptrEq, TX.x]
def ptrBinX (td : Option TD) (op : BinOp) (q : Option Bool) : Option X :=
  match td with
  | some (.pt _) => match op, q with
      | .eql, some r => some (X.b r)
      | .neq, some r => some (.b !r)
      | _, _ => none
  | _ => none
theorem ptr_case {td : Option TD} {op : BinOp} {x y z : TX} (h : ptrBinT td op (ptrEqT x y) = some (true, z)) : ptrBinX td op (ptrEq x.x y.x) = some z.x := by
  unfold ptrBinT at h
  unfold ptrBinX
  split at h
  · cases hr : ptrEqT x y with
    | none => rw [hr] at h; cases h
    | some r =>
      rw [hr] at h
      simp only [ptrEqT_ok x y hr]
      cases op <;> simp only [Option.some.injEq, Prod.mk.injEq, true_and, reduceCtorEq] at h <;> subst h <;> simp [TX.x]
  · cases h
theorem binvT_ok {T : TT} {op : BinOp} {t : TypeId} {x y z : TX} (h : binvT T op t x y = some (true, z)) : binv T op t x.x y.x = some z.x := by
  unfold binvT at h
  split at h
  · rename_i k a k' b
    simp only [TX.x, binv]
    split at h
    · simp only [Option.some.injEq, Prod.mk.injEq, Bool.not_eq_true', decide_eq_false_iff_not] at h
      obtain ⟨h1, rfl⟩ := h
      simp [h1, TX.x]
    · simp only [Option.some.injEq, Prod.mk.injEq, Bool.not_eq_true', decide_eq_false_iff_not] at h
      obtain ⟨h1, rfl⟩ := h
      simp [h1, TX.x]
    · rename_i n1 n2
      split at h
      · rename_i hk
        rw [if_pos hk]
        cases op <;> first | exact arithT_ok h | exact absurd rfl n1 | exact absurd rfl n2
      · cases h
  · simp only [TX.x, binv]; exact stropT_ok h
  · rename_i a b
    simp only [TX.x, binv]
    split at h
    · rename_i ht
      rw [if_pos ht]
      cases op <;> simp only [Option.some.injEq, Prod.mk.injEq, true_and, reduceCtorEq] at h <;> subst h <;> simp [TX.x]
    · cases h
  · rename_i h1 h2 h3
    have key := ptr_case h
    cases x <;> cases y <;> simp only [TX.x, binv, ptrBinX] at key ⊢ <;> first | exact key | exact (h1 _ _ _ _ rfl rfl).elim | exact (h2 _ _ rfl rfl).elim | exact (h3 _ _ rfl rfl).elim
def unvT (op : UnOp) : TX → CT
  | .b v => match op with
    | .not => some (true, .b !v)
    | _ => none
  | .i k n => match op with
    | .neg => some (true, .i k (k.wrap (0 - n)))
    | .xor => some (true, .i k (k.wrap (BitVec.ofInt k.bits (if k.signed then -1 else k.max) ^^^ BitVec.ofInt k.bits n).toNat))
    | _ => none
  | _ => none
theorem unvT_ok {op : UnOp} {x z : TX} (h : unvT op x = some (true, z)) : unv op x.x = some z.x := by
  cases x <;> simp only [unvT, reduceCtorEq] at h
  · cases op <;> simp only [Option.some.injEq, Prod.mk.injEq, true_and, reduceCtorEq] at h <;> subst h <;> simp [unv, TX.x]
  · cases op <;> simp only [Option.some.injEq, Prod.mk.injEq, true_and, reduceCtorEq] at h <;> subst h <;> simp [unv, TX.x]
def fitsT (ti : TI) (x : TX) : Bool := x.agg == ti.td.agg && !x.isTup && x.size == ti.size
theorem fits_x (ti : TI) (x : TX) : fits ti x.x = fitsT ti x := by
  simp only [fits, fitsT, size_x, agg_x, tup_x]
  cases (x.size == ti.size) <;> cases (x.agg == ti.td.agg) <;> cases x.isTup <;> rfl
mutual
def eqTT (T : TT) : Nat → Nat → TX → TX → Option Bool
  | 0, _, _, _ => none
  | n + 1, t, x, y => match T t with
    | some { td := .bool, .. } => (match x, y with
      | .b a, .b b => some (a == b)
      | _, _ => none)
    | some { td := .int k, .. } => (match x, y with
      | .i k1 a, .i k2 b => if k1 = k ∧ k2 = k then some (a == b) else none
      | _, _ => none)
    | some { td := .str, .. } => (match x, y with
      | .s a, .s b => some (a == b)
      | _, _ => none)
    | some { td := .st fs, .. } => (match x, y with
      | .ag xs, .ag ys => if fs.length = xs.length ∧ fs.length = ys.length ∧ cmpOk T 30 t = true then eqTTL T n fs xs ys else none
      | _, _ => none)
    | _ => none
def eqTTL (T : TT) : Nat → List Nat → List TX → List TX → Option Bool
  | 0, _, _, _ => none
  | _ + 1, [], _, _ => some true
  | n + 1, f :: fs, xs, ys => match xs, ys with
    | x :: xs, y :: ys => (match T f with
      | some fi => if fitsT fi x = true ∧ fitsT fi y = true then (match eqTT T n f x y with
        | some r => (match eqTTL T n fs xs ys with
          | some r' => some (r && r')
          | none => none)
        | none => none) else none
      | none => none)
    | _, _ => none
end
theorem txL_length : ∀ xs : List TX, (txL xs).length = xs.length
  | [] => rfl
  | x :: xs => by simp [txL, txL_length xs]
mutual
theorem eqTT_ok {T : TT} : ∀ (n t : Nat) {x y : TX} {r : Bool}, eqTT T n t x y = some r → eqT T n t x.x y.x = some r
  | 0, t, x, y, r, h => by simp [eqTT] at h
  | n + 1, t, x, y, r, h => by
    simp only [eqTT] at h
    simp only [eqT]
    split at h
    · rename_i ht
      simp only [ht]
      split at h
      · simpa only [TX.x] using h
      · cases h
    · rename_i ht
      simp only [ht]
      split at h
      · simpa only [TX.x] using h
      · cases h
    · rename_i ht
      simp only [ht]
      split at h
      · simpa only [TX.x] using h
      · cases h
    · rename_i ht
      simp only [ht]
      split at h
      · simp only [TX.x, txL_length]
        split at h
        · rename_i hl
          rw [if_pos hl]
          exact eqTTL_ok n _ h
        · cases h
      · cases h
    · cases h
theorem eqTTL_ok {T : TT} : ∀ (n : Nat) (fs : List Nat) {xs ys : List TX} {r : Bool}, eqTTL T n fs xs ys = some r → eqTL T n fs (txL xs) (txL ys) = some r
  | 0, fs, xs, ys, r, h => by cases fs <;> simp [eqTTL] at h
  | n + 1, [], xs, ys, r, h => by simpa only [eqTTL, eqTL] using h
  | n + 1, f :: fs, xs, ys, r, h => by
    simp only [eqTTL] at h
    split at h
    · split at h
      · rename_i fi hf
        split at h
        · rename_i hfit
          split at h
          · rename_i r1 hr1
            split at h
            · rename_i r2 hr2
              simp only [txL, eqTL, hf, fits_x, hfit, and_self, if_true, eqTT_ok n f hr1, eqTTL_ok n fs hr2]
              exact h
            · cases h
          · cases h
        · cases h
      · cases h
    · cases h
end
def cmpT (op : BinOp) (r : Bool) : CT :=
  match op with
  | .eql => some (true, .b r)
  | .neq => some (true, .b !r)
  | _ => none
def binvST (T : TT) (op : BinOp) (t : TypeId) (x y : TX) : CT :=
  match x with
  | .ag _ => (match eqTT T 30 t x y with
    | some r => cmpT op r
    | none => none)
  | _ => binvT T op t x y
theorem binvST_ok {T : TT} {op : BinOp} {t : TypeId} {x y z : TX} (h : binvST T op t x y = some (true, z)) : binvS T op t x.x y.x = some z.x := by
  unfold binvST at h
  split at h
  · rename_i xs
    split at h
    · rename_i r hr
      have := eqTT_ok 30 t hr
      simp only [TX.x] at this
      simp only [TX.x, binvS, this]
      cases op <;> simp only [cmpT, Option.some.injEq, Prod.mk.injEq, true_and, reduceCtorEq] at h <;> subst h <;> simp [TX.x]
    · cases h
  · rename_i hx
    have := binvT_ok h
    cases x <;> first | exact (hx _ rfl).elim | (simp only [TX.x, binvS] at this ⊢; exact this)
def mmT (mx : Bool) (x y : TX) : CT :=
  match x, y with
  | .i k a, .i k' b => if k = k' then some (true, .i k (if mx then (if b > a then b else a) else (if b < a then b else a))) else none
  | _, _ => none
theorem mmT_ok {mx : Bool} {x y z : TX} (h : mmT mx x y = some (true, z)) : mmX mx x.x y.x = some z.x := by
  unfold mmT at h
  split at h
  · split at h
    · rename_i hk
      simp only [Option.some.injEq, Prod.mk.injEq, true_and] at h
      subst h
      simp only [TX.x, mmX, hk, if_true]
    · cases h
  · cases h
/-- What a slice holds. -/
def elemsT (r : Nat → Option TX) : TX → Option ((τ : Ty) × List τ.den)
  | .sl _ τ vs => some ⟨τ, vs⟩
  | .hw g => match r g with
    | some (.ar _ τ c) => some ⟨τ, c⟩
    | _ => none
  | .hd g lo len _ => match r g with
    | some (.ar _ τ c) => some ⟨τ, (List.drop lo c).take len⟩
    | _ => none
  | _ => none
theorem elemsT_ok {r : Nat → Option TX} {x : TX} {τ : Ty} {vs : List τ.den} (h : elemsT r x = some ⟨τ, vs⟩) : elems (rX r) x.x = some (vs.map (embX τ)) := by
  cases x <;> simp only [elemsT, reduceCtorEq] at h
  · simp only [Option.some.injEq] at h
    cases h
    simp [elems, TX.x]
  · split at h
    · rename_i hg
      simp only [Option.some.injEq] at h
      cases h
      simp [elems, TX.x, rX, hg]
    · cases h
  · split at h
    · rename_i hg
      simp only [Option.some.injEq] at h
      cases h
      simp [elems, TX.x, rX, hg, mid, List.map_drop, List.map_take]
    · cases h
def lenT (r : Nat → Option TX) : TX → Option Nat
  | .s l => some l.length
  | .sl _ _ vs => some vs.length
  | .emp _ => some 0
  | .hw g => match r g with
    | some (.ar _ _ c) => some c.length
    | _ => none
  | .hd g lo len _ => match r g with
    | some (.ar _ _ c) => some ((List.drop lo c).take len).length
    | _ => none
  | _ => none
theorem lenT_ok {r : Nat → Option TX} {x : TX} {n : Nat} (h : lenT r x = some n) : lenX (rX r) x.x = some n := by
  cases x <;> simp only [lenT, reduceCtorEq] at h
  · cases h; simp [lenX, TX.x]
  · cases h; simp [lenX, TX.x, elems]
  · cases h; simp [lenX, TX.x, elems]
  · split at h
    · rename_i hg; cases h; simp [lenX, TX.x, elems, rX, hg]
    · cases h
  · split at h
    · rename_i hg; cases h; simp [lenX, TX.x, elems, rX, hg, mid]
    · cases h
/-! ### frozen -/
mutual
def TX.fz : TX → Bool
  | .ag xs => tfzL xs
  | .bot | .tup _ | .hw _ | .hd _ _ _ _ | .pt _ _ | .fn _ _ => false
  | .b _ | .i _ _ | .s _ | .ar _ _ _ | .sl _ _ _ | .emp _ | .np | .pf _ | .nm | .nf => true
def tfzL : List TX → Bool
  | [] => true
  | x :: xs => x.fz && tfzL xs
end
mutual
theorem fz_x : ∀ x : TX, x.x.fz = x.fz
  | .ag xs => by simp only [TX.x, X.fz, TX.fz]; exact fzL_x xs
  | .bot | .tup _ | .hw _ | .hd _ _ _ _ | .pt _ _ | .fn _ _ | .b _ | .i _ _ | .s _ | .ar _ _ _ | .sl _ _ _ | .emp _ | .np | .pf _ | .nm | .nf => by simp [TX.x, X.fz, TX.fz]
theorem fzL_x : ∀ xs : List TX, fzL (txL xs) = tfzL xs
  | [] => rfl
  | x :: xs => by simp only [txL, fzL, tfzL, fz_x x, fzL_x xs]
end
def ptFT (r : Nat → Option TX) (g : Nat) (ps : List PStep) : Option TX :=
  match ps, r g with
  | [], some y => (match y.fz with
    | true => some (.pf y)
    | false => none)
  | _, _ => none
theorem ptFT_ok {r : Nat → Option TX} {g : Nat} {ps : List PStep} {z : TX} (h : ptFT r g ps = some z) : ptF (rX r) g (offOf ps) (keysOf ps) = some z.x := by
  unfold ptFT at h
  split at h
  · rename_i y hy
    split at h
    · rename_i hz
      cases h
      simp only [ptF, offOf, keysOf, rX, hy, Option.map_some, fz_x, hz, TX.x, List.map_nil]
    · cases h
  · cases h
mutual
def frzT (r : Nat → Option TX) : TX → Option TX
  | .ag xs => match frzTL r xs with
    | some ys => some (.ag ys)
    | none => none
  | .hw g => match r g with
    | some (.ar _ τ c) => some (.sl false τ c)
    | _ => none
  | .hd g lo len f => match r g with
    | some (.ar _ τ c) => some (.sl f τ ((List.drop lo c).take len))
    | _ => none
  | .b v => some (.b v) | .i k n => some (.i k n) | .s l => some (.s l) | .ar d τ vs => some (.ar d τ vs) | .sl f τ vs => some (.sl f τ vs) | .emp f => some (.emp f) | .np => some .np | .pf x => some (.pf x) | .nm => some .nm | .nf => some .nf
  | .pt g ps => ptFT r g ps
  | .bot | .tup _ | .fn _ _ => none
def frzTL (r : Nat → Option TX) : List TX → Option (List TX)
  | [] => some []
  | x :: xs => match frzT r x with
    | some y => match frzTL r xs with
      | some ys => some (y :: ys)
      | none => none
    | none => none
end
mutual
theorem frzT_ok {r : Nat → Option TX} : ∀ {x y : TX}, frzT r x = some y → frz (rX r) x.x = some y.x
  | .ag xs, y, h => by
    simp only [frzT] at h
    split at h
    · rename_i ys hy
      cases h
      simp only [TX.x, frz, frzTL_ok hy, Option.map_some]
    · cases h
  | .hw g, y, h => by
    simp only [frzT] at h
    split at h
    · rename_i hg; cases h; simp [TX.x, frz, rX, hg]
    · cases h
  | .hd g lo len f, y, h => by
    simp only [frzT] at h
    split at h
    · rename_i hg; cases h; simp [TX.x, frz, rX, hg, mid, List.map_drop, List.map_take]
    · cases h
  | .b v, y, h | .i k n, y, h | .s l, y, h | .ar d τ vs, y, h | .sl f τ vs, y, h | .emp f, y, h | .np, y, h | .pf x, y, h | .nm, y, h | .nf, y, h => by
    simp only [frzT, Option.some.injEq] at h
    subst h
    simp [TX.x, frz]
  | .pt g ps, y, h => by
    simp only [frzT] at h
    simp only [TX.x, frz]
    exact ptFT_ok h
  | .bot, y, h | .tup _, y, h | .fn _ _, y, h => by simp [frzT] at h
theorem frzTL_ok {r : Nat → Option TX} : ∀ {xs ys : List TX}, frzTL r xs = some ys → frzL (rX r) (txL xs) = some (txL ys)
  | [], ys, h => by simp only [frzTL, Option.some.injEq] at h; subst h; rfl
  | x :: xs, ys, h => by
    simp only [frzTL] at h
    split at h
    · rename_i y hy
      split at h
      · rename_i ys' hys
        cases h
        simp only [txL, frzL, frzT_ok hy, frzTL_ok hys]
      · cases h
    · cases h
end
/-! ### fields, elements, loads -/
def fldAT (T : TT) (t f : Nat) : TX → CT
  | .pt g ps => match T t with
    | some { td := .st fs, .. } => if f < fs.length then some (true, .pt g (ps ++ [.f f (offs T fs f)])) else none
    | _ => none
  | .pf (.ag xs) => match T t with
    | some { td := .st fs, .. } => if f < fs.length ∧ tsizeL (xs.take f) = offs T fs f then (match xs[f]? with
      | some y => some (true, .pf y)
      | none => none) else none
    | _ => none
  | _ => none
theorem offOf_append (ps : List PStep) (p : PStep) : offOf (ps ++ [p]) = offOf ps + p.off := by
  induction ps with
  | nil => simp [offOf]
  | cons q ps ih => simp [offOf, ih, Nat.add_assoc]
theorem keysOf_append (ps : List PStep) (p : PStep) : keysOf (ps ++ [p]) = keysOf ps ++ [p.key] := by simp [keysOf]
theorem fldAT_ok {T : TT} {t f : Nat} {x z : TX} (h : fldAT T t f x = some (true, z)) : fldA T t f x.x = some z.x := by
  unfold fldAT at h
  split at h
  · rename_i g ps
    split at h
    · rename_i ht
      split at h
      · rename_i hf
        cases h
        simp [TX.x, fldA, ht, hf, offOf_append, keysOf_append, PStep.off, PStep.key]
      · cases h
    · cases h
  · rename_i xs
    split at h
    · rename_i ht
      split at h
      · rename_i hf
        split at h
        · rename_i y hy
          cases h
          simp [TX.x, fldA, ht, hf.1, txL_take, sizeL_x, hf.2, txL_get, hy]
        · cases h
      · cases h
    · cases h
  · cases h
def idxAT (T : TT) (r : Nat → Option TX) (t : Nat) (x : TX) (n : Int) : CT :=
  match T t with
  | some { td := .sl e, .. } => match T e with
    | some ei => match x with
      | .sl _ τ vs => if τ.size = ei.size then some (decide (0 ≤ n) && decide (n < vs.length), .pf (emb τ (List.getD vs n.toNat τ.dflt))) else none
      | .hw g => match r g with
        | some (.ar d τ c) => if d = ei.size then some (decide (0 ≤ n) && decide (n < c.length), .pt g [.x n.toNat ei.size]) else none
        | _ => none
      | .hd g lo len _ => match r g with
        | some (.ar d τ c) => if d = ei.size then some (decide (0 ≤ n) && decide (n < len), .pt g [.x (lo + n.toNat) ei.size]) else none
        | _ => none
      | _ => none
    | none => none
  | some { td := .arr m e, .. } => match T e with
    | some ei => match x with
      | .pt g ps => some (decide (0 ≤ n) && decide (n < m), .pt g (ps ++ [.x n.toNat ei.size]))
      | _ => none
    | none => none
  | _ => none
theorem idxAT_ok {T : TT} {r : Nat → Option TX} {t : Nat} {x z : TX} {n : Int} (h : idxAT T r t x n = some (true, z)) : idxA T (rX r) t x.x n = some z.x := by
  unfold idxAT at h
  unfold idxA
  split at h
  · rename_i ht
    simp only [ht]
    split at h
    · rename_i ei he
      simp only [he]
      split at h
      · rename_i f τ vs
        split at h
        · rename_i hs
          simp only [Option.some.injEq, Prod.mk.injEq, Bool.and_eq_true, decide_eq_true_eq] at h
          obtain ⟨⟨h1, h2⟩, rfl⟩ := h
          have h3 : n.toNat < vs.length := by omega
          simp only [TX.x, h1, if_true, getD_map (embX τ) τ.dflt h3, embX_size, hs, emb_x]
        · cases h
      · rename_i g
        split at h
        · rename_i d τ c hg
          split at h
          · rename_i hd
            simp only [Option.some.injEq, Prod.mk.injEq, Bool.and_eq_true, decide_eq_true_eq] at h
            obtain ⟨⟨h1, h2⟩, rfl⟩ := h
            simp [TX.x, rX, hg, h1, h2, hd, offOf, PStep.off, keysOf, PStep.key]
          · cases h
        · cases h
      · rename_i g lo len f
        split at h
        · rename_i d τ c hg
          split at h
          · rename_i hd
            simp only [Option.some.injEq, Prod.mk.injEq, Bool.and_eq_true, decide_eq_true_eq] at h
            obtain ⟨⟨h1, h2⟩, rfl⟩ := h
            simp [TX.x, rX, hg, h1, h2, hd, offOf, PStep.off, keysOf, PStep.key]
          · cases h
        · cases h
      · cases h
    · cases h
  · rename_i m e _ _ _ ht
    simp only [ht]
    split at h
    · rename_i ei he
      simp only [he]
      split at h
      · simp only [Option.some.injEq, Prod.mk.injEq, Bool.and_eq_true, decide_eq_true_eq] at h
        obtain ⟨⟨h1, h2⟩, rfl⟩ := h
        simp [TX.x, h1, h2, offOf_append, keysOf_append, PStep.off, PStep.key]
      · cases h
    · cases h
  · cases h
def idxVT (T : TT) (t : Nat) (x : TX) (n : Int) : CT :=
  match x with
  | .s l => if tdOf T t = some .str then some (decide (0 ≤ n) && decide (n < l.length), .i .u8 (UInt8.toNat (l.getD n.toNat 0))) else none
  | .ar d τ vs => match T t with
    | some { td := .arr m e, .. } => match T e with
      | some ei => if d = ei.size ∧ τ.size = ei.size ∧ τ.agg = ei.td.agg then some (decide (0 ≤ n) && decide (n < m) && decide (n < vs.length), emb τ (List.getD vs n.toNat τ.dflt)) else none
      | none => none
    | _ => none
  | _ => none
theorem idxVT_ok {T : TT} {t : Nat} {x z : TX} {n : Int} (h : idxVT T t x n = some (true, z)) : idxV T t x.x n = some z.x := by
  unfold idxVT at h
  split at h
  · rename_i l
    split at h
    · rename_i ht
      simp only [Option.some.injEq, Prod.mk.injEq, Bool.and_eq_true, decide_eq_true_eq] at h
      obtain ⟨⟨h1, h2⟩, rfl⟩ := h
      have h3 : n.toNat < l.length := by omega
      simp [TX.x, idxV, ht, h1, List.getElem?_eq_getElem h3, List.getD_eq_getElem?_getD]
    · cases h
  · rename_i d τ vs
    split at h
    · rename_i m e _ _ _ ht
      split at h
      · rename_i ei he
        split at h
        · rename_i hh
          obtain ⟨hd, hs, ha⟩ := hh
          simp only [Option.some.injEq, Prod.mk.injEq, Bool.and_eq_true, decide_eq_true_eq] at h
          obtain ⟨⟨⟨h1, h2⟩, h4⟩, rfl⟩ := h
          have h3 : n.toNat < vs.length := by omega
          simp only [TX.x, idxV, ht, he, h1, h2, hd, and_self, if_true, getD_map (embX τ) τ.dflt h3]
          rw [if_pos, emb_x]
          simp [fits, embX_size, embX_agg, embX_tup, hs, ha]
        · cases h
      · cases h
    · cases h
  · cases h
def fldVT (T : TT) (t f : Nat) (x : TX) : CT :=
  match x, T t with
  | .ag xs, some { td := .st fs, .. } => match xs[f]?, (fs[f]?).bind T with
    | some y, some fi => if tsizeL (xs.take f) = offs T fs f then some (fitsT fi y, y) else none
    | _, _ => none
  | _, _ => none
theorem fldVT_ok {T : TT} {t f : Nat} {x z : TX} (h : fldVT T t f x = some (true, z)) : fldV T t f x.x = some z.x := by
  unfold fldVT at h
  split at h
  · rename_i xs fs _ _ _ ht
    split at h
    · rename_i y fi hy hfi
      split at h
      · rename_i ho
        simp only [Option.some.injEq, Prod.mk.injEq] at h
        obtain ⟨h1, rfl⟩ := h
        simp [TX.x, fldV, ht, txL_get, hy, hfi, fits_x, h1, txL_take, sizeL_x, ho]
      · cases h
    · cases h
  · cases h
def ldVT (T : TT) (r : Nat → Option TX) (t : Nat) (x : TX) : CT :=
  match T t with
  | some ti => match x with
    | .pt g ps => match r g with
      | some c => match navT c ps with
        | some (ch, y) => some (fitsT ti y && ch, y)
        | none => none
      | none => none
    | .pf y => some (fitsT ti y, y)
    | _ => none
  | none => none
theorem ldVT_ok {T : TT} {r : Nat → Option TX} {t : Nat} {x z : TX} (h : ldVT T r t x = some (true, z)) : ldV T (rX r) t x.x = some z.x := by
  unfold ldVT at h
  unfold ldV
  split at h
  · rename_i ti ht
    simp only [ht]
    split at h
    · rename_i g ps
      split at h
      · rename_i c hg
        split at h
        · rename_i ch y hn
          simp only [Option.some.injEq, Prod.mk.injEq, Bool.and_eq_true] at h
          obtain ⟨⟨h1, rfl⟩, rfl⟩ := h
          simp [TX.x, rX, hg, navT_ok hn, fits_x, h1]
        · cases h
      · cases h
    · simp only [Option.some.injEq, Prod.mk.injEq] at h
      obtain ⟨h1, rfl⟩ := h
      simp [TX.x, fits_x, h1]
    · cases h
  · cases h
end Go.EV
