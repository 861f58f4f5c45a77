/- What one operation, a region, a body, a function computes on plain values. -/
import Derived.Test.YtfadalgikdffeaaGreatEv1
import GoSem.Core.Program
set_option linter.unusedVariables false
namespace Go.EV
open Go.RowKit

def tdOf (T : TT) (t : Nat) : Option TD := (T t).map TI.td
def toBytes : List X → Option (List UInt8)
  | [] => some []
  | .i .u8 n :: xs => (toBytes xs).map (UInt8.ofNat n.toNat :: ·)
  | _ :: _ => none
def ofBytes (l : List UInt8) : List X := l.map fun c => .i .u8 c.toNat

def arith (op : BinOp) (k : IntKind) (a b : Int) : Option X :=
  match op with
  | .add => some (.i k (k.wrap (a + b)))
  | .sub => some (.i k (k.wrap (a - b)))
  | .mul => some (.i k (k.wrap (a * b)))
  | .quo => if b = 0 then none else some (.i k (k.wrap (a.tdiv b)))
  | .rem => if b = 0 then none else some (.i k (a.tmod b))
  | .and => some (.i k (k.wrap (BitVec.ofInt k.bits a &&& BitVec.ofInt k.bits b).toNat))
  | .or => some (.i k (k.wrap (BitVec.ofInt k.bits a ||| BitVec.ofInt k.bits b).toNat))
  | .xor => some (.i k (k.wrap (BitVec.ofInt k.bits a ^^^ BitVec.ofInt k.bits b).toNat))
  | .andNot => some (.i k (k.wrap (BitVec.ofInt k.bits a &&& ~~~ BitVec.ofInt k.bits b).toNat))
  | .eql => some (.b (a == b))
  | .neq => some (.b (a != b))
  | .lss => some (.b (decide (a < b)))
  | .leq => some (.b (decide (a ≤ b)))
  | .gtr => some (.b (decide (a > b)))
  | .geq => some (.b (decide (a ≥ b)))
  | _ => none
def strop (op : BinOp) (a b : List UInt8) : Option X :=
  match op with
  | .add => if a.length + b.length ≤ 2147483647 then some (.s (a ++ b)) else none
  | .eql => some (.b (a == b))
  | .neq => some (.b !(a == b))
  | .lss => some (.b (Op.bytesLess a b))
  | .leq => some (.b (Op.bytesLess a b || a == b))
  | .gtr => some (.b !(Op.bytesLess a b || a == b))
  | .geq => some (.b !(Op.bytesLess a b))
  | _ => none
def ptrEq : X → X → Option Bool
  | .np, .np => some true
  | .np, .pt _ _ _ => some false
  | .np, .pf _ => some false
  | .pt _ _ _, .np => some false
  | .pf _, .np => some false
  | _, _ => none
mutual
/-- Structs of whole numbers, bools and strings. -/
def eqX : X → X → Option Bool
  | .i k a, .i k' b => if k = k' then some (a == b) else none
  | .b a, .b b => some (a == b)
  | .s a, .s b => some (a == b)
  | .ag xs, .ag ys => eqL xs ys
  | _, _ => none
def eqL : List X → List X → Option Bool
  | [], [] => some true
  | x :: xs, y :: ys => match eqX x y with
    | some true => eqL xs ys
    | some false => some false
    | none => none
  | _, _ => none
end
def binv (T : TT) (op : BinOp) (t : TypeId) : X → X → Option X
  | .i k a, .i k' b => match op with
    | .shl => if b < 0 then none else some (.i k (k.wrap (a * 2 ^ (min b.toNat k.bits))))
    | .shr => if b < 0 then none else some (.i k (a.fdiv (2 ^ (min b.toNat k.bits))))
    | _ => if k = k' then arith op k a b else none
  | .s a, .s b => strop op a b
  | .b a, .b b => if tdOf T t = some .bool then (match op with
    | .eql => some (.b (a == b))
    | .neq => some (.b !(a == b))
    | _ => none) else none
  | x, y => match tdOf T t with
    | some (.pt _) => match op, ptrEq x y with
      | .eql, some r => some (.b r)
      | .neq, some r => some (.b !r)
      | _, _ => none
    | _ => none
/-- Types of comparable data. -/
def cmpOk (T : TT) : Nat → Nat → Bool
  | 0, _ => false
  | n + 1, t => match T t with
    | some { td := .bool, .. } | some { td := .int _, .. } | some { td := .str, .. } => true
    | some { td := .st fs, .. } => fs.all fun f => cmpOk T n f
    | _ => false
mutual
/-- Are two values of a type equal? -/
def eqT (T : TT) : Nat → Nat → X → X → Option Bool
  | 0, _, _, _ => none
  | n + 1, t, x, y => match T t with
    | some { td := .bool, .. } => (match x, y with
      | .b a, .b b => some (a == b)
      | _, _ => none)
    | some { td := .int k, .. } => (match x, y with
      | .i k1 a, .i k2 b => if k1 = k ∧ k2 = k then some (a == b) else none
      | _, _ => none)
    | some { td := .str, .. } => (match x, y with
      | .s a, .s b => some (a == b)
      | _, _ => none)
    | some { td := .st fs, .. } => (match x, y with
      | .ag xs, .ag ys => if fs.length = xs.length ∧ fs.length = ys.length ∧ cmpOk T 30 t = true then eqTL T n fs xs ys else none
      | _, _ => none)
    | _ => none
def eqTL (T : TT) : Nat → List Nat → List X → List X → Option Bool
  | 0, _, _, _ => none
  | _ + 1, [], _, _ => some true
  | n + 1, f :: fs, xs, ys => match xs, ys with
    | x :: xs, y :: ys => (match T f with
      | some fi => if fits fi x = true ∧ fits fi y = true then (match eqT T n f x y with
        | some r => (match eqTL T n fs xs ys with
          | some r' => some (r && r')
          | none => none)
        | none => none) else none
      | none => none)
    | _, _ => none
end
def binvS (T : TT) (op : BinOp) (t : TypeId) (x y : X) : Option X :=
  match x with
  | .ag _ => (match eqT T 30 t x y with
    | some r => (match op with
      | .eql => some (.b r)
      | .neq => some (.b !r)
      | _ => none)
    | none => none)
  | _ => binv T op t x y
/-- min and max of two. -/
def mmX (mx : Bool) (x y : X) : Option X :=
  match x, y with
  | .i k a, .i k' b => if k = k' then some (.i k (if mx then (if b > a then b else a) else (if b < a then b else a))) else none
  | _, _ => none
def unv (op : UnOp) : X → Option X
  | .b v => match op with
    | .not => some (.b !v)
    | _ => none
  | .i k n => match op with
    | .neg => some (.i k (k.wrap (0 - n)))
    | .xor => some (.i k (k.wrap (BitVec.ofInt k.bits (if k.signed then -1 else k.max) ^^^ BitVec.ofInt k.bits n).toNat))
    | _ => none
  | _ => none
/-- The parts of a struct or of an array, laid one by one. -/
def fillX (xs : List X) : List (Nat × X) → Option (List X)
  | [] => some xs
  | (j, v) :: ps => match xs[j]? with
    | some old => if v.size = old.size ∧ v.isBot = false ∧ v.isTup = false then fillX (xs.set j v) ps else none
    | none => none
def bounds (n : Nat) (lo hi : Option X) : Option (Nat × Nat) :=
  match (match hi with
    | none => some n
    | some (.i _ h) => if 0 ≤ h ∧ h ≤ n then some h.toNat else none
    | some _ => none) with
  | none => none
  | some h => match lo with
    | none => some (0, h)
    | some (.i _ l) => if 0 ≤ l ∧ l ≤ h then some (l.toNat, h) else none
    | some _ => none
def maxOk (hi : Option X) (h : Nat) : Option X → Option Bool
  | none => some false
  | some (.i _ m) => if m = h ∧ hi.isSome = true then some true else none
  | some _ => none
def cutS (l : List UInt8) (lo hi mx : Option X) : Option X :=
  match mx, bounds l.length lo hi with
    | none, some (a, b) => some (.s ((l.take b).drop a))
    | _, _ => none
def cut (r : Nat → Option X) (es : Nat) (x : X) (lo hi mx : Option X) : Option X :=
  match x with
  | .sl f xs => match bounds xs.length lo hi with
    | some (a, b) => match maxOk hi b mx with
      | some m => if xs.all (fun y => y.size == es) then some (.sl (m || (f && hi.isNone)) ((xs.take b).drop a)) else none
      | none => none
    | none => none
  | .hw g => match r g with
    | some (.ar d c) => match bounds c.length lo hi with
      | some (a, b) => match maxOk hi b mx with
        | some m => if d = es then (if (lo.isNone && hi.isNone && !m) = true then some (.hw g) else some (.hd g a (b - a) m)) else none
        | none => none
      | none => none
    | _ => none
  | .hd g l0 n f => match r g with
    | some (.ar d _) => match bounds n lo hi with
      | some (a, b) => match maxOk hi b mx with
        | some m => if d = es then some (.hd g (l0 + a) (b - a) (m || (f && hi.isNone))) else none
        | none => none
      | none => none
    | _ => none
  | _ => none
def optX : Option Operand → List X → Option X × List X
  | none, xs => (none, xs)
  | some _, x :: xs => (some x, xs)
  | some _, [] => (none, [])
def lenX (r : Nat → Option X) : X → Option Nat
  | .s l => some l.length
  | x => (elems r x).map (·.length)
def offs (T : TT) (fs : List Nat) (f : Nat) : Nat := ((fs.take f).map fun t => ((T t).map (·.size)).getD 0).sum
def fldA (T : TT) (t f : Nat) : X → Option X
  | .pt g off p => match T t with
    | some { td := .st fs, .. } => if f < fs.length then some (.pt g (off + offs T fs f) (p ++ [f])) else none
    | _ => none
  | .pf (.ag xs) => match T t with
    | some { td := .st fs, .. } => if f < fs.length ∧ sizeL (xs.take f) = offs T fs f then (xs[f]?).map .pf else none
    | _ => none
  | _ => none
def idxA (T : TT) (r : Nat → Option X) (t : Nat) (x : X) (n : Int) : Option X :=
  match T t with
  | some { td := .sl e, .. } => match T e with
    | some ei => match x with
      | .sl _ xs => if 0 ≤ n then (match xs[n.toNat]? with
        | some y => if y.size = ei.size then some (.pf y) else none
        | none => none) else none
      | .hw g => match r g with
        | some (.ar d c) => if 0 ≤ n ∧ n < c.length ∧ d = ei.size then some (.pt g (n.toNat * ei.size) [n.toNat]) else none
        | _ => none
      | .hd g lo len _ => match r g with
        | some (.ar d _) => if 0 ≤ n ∧ n < len ∧ d = ei.size then some (.pt g ((lo + n.toNat) * ei.size) [lo + n.toNat]) else none
        | _ => none
      | _ => none
    | none => none
  | some { td := .arr m e, .. } => match T e with
    | some ei => match x with
      | .pt g off p => if 0 ≤ n ∧ n < m then some (.pt g (off + n.toNat * ei.size) (p ++ [n.toNat])) else none
      | _ => none
    | none => none
  | _ => none
def idxV (T : TT) (t : Nat) (x : X) (n : Int) : Option X :=
  match x with
  | .s l => if tdOf T t = some .str ∧ 0 ≤ n then (l[n.toNat]?).map fun c => .i .u8 c.toNat else none
  | .ar d xs => match T t with
    | some { td := .arr m e, .. } => match T e with
      | some ei => if 0 ≤ n ∧ n < m ∧ d = ei.size then (match xs[n.toNat]? with
        | some y => if fits ei y then some y else none
        | none => none) else none
      | none => none
    | _ => none
  | _ => none
def fldV (T : TT) (t f : Nat) (x : X) : Option X :=
  match x, T t with
  | .ag xs, some { td := .st fs, .. } => match xs[f]?, (fs[f]?).bind T with
    | some y, some fi => if fits fi y ∧ sizeL (xs.take f) = offs T fs f then some y else none
    | _, _ => none
  | _, _ => none
def ldV (T : TT) (r : Nat → Option X) (t : Nat) (x : X) : Option X :=
  match T t with
  | some ti => match x with
    | .pt g off p => match r g with
      | some c => match nav c p with
        | some (y, o) => if o = off ∧ fits ti y then some y else none
        | none => none
      | none => none
    | .pf y => if fits ti y then some y else none
    | _ => none
  | none => none
def small (n : Nat) : Bool := n ≤ 2147483647
/-- What has no effect on what there was: the value, the new places, the arrays that are nobody's from now on. -/
abbrev Quiet := Option (X × List (Nat × X) × List Nat)
def q1 : Option X → Quiet
  | some x => some (x, [], [])
  | none => none
def frzAll (r : Nat → Option X) : List X → Option (List X) := frzL r
def x1 (xs : List X) (f : X → Quiet) : Quiet := match xs with | [x] => f x | _ => none
def x2 (xs : List X) (f : X → X → Quiet) : Quiet := match xs with | [x, y] => f x y | _ => none
def x3 (xs : List X) (f : X → X → X → Quiet) : Quiet := match xs with | [x, y, z] => f x y z | _ => none
def pickX (c x y : X) : Option X := match c with | .b c => some (if c then x else y) | _ => none
def intX (x : X) (f : Int → Quiet) : Quiet := match x with | .i _ n => f n | _ => none
def buildX (T : TT) (t : Nat) (ks : List Nat) (xs : List X) : Option X :=
  match T t with
    | some ti => match ti.zero with
      | .ag zs => (fillX zs (ks.zip xs)).map .ag
      | .ar d zs => if xs.all (·.fz) then (fillX zs (ks.zip xs)).map (.ar d) else none
      | _ => none
    | none => none
def buildSlX (T : TT) (r : Nat → Option X) (dst t n : Nat) (ks : List Nat) (xs : List X) : Quiet :=
  match T t with
    | some { td := .sl e, .. } => match T e with
      | some ei => if n = 0 ∧ ks = [] then some (.hw dst, [(dst, .ar ei.size [])], []) else match frwL r xs with
        | some xs' => if n ≤ 1000 ∧ 0 < ei.size ∧ ei.size ≤ 1000 ∧ 0 < n then (match fillX (List.replicate n ei.zero.wk) (ks.zip xs') with
          | some ys => some (.hw dst, [(dst, .ar ei.size ys)], refsL xs)
          | none => none) else none
        | none => none
      | none => none
    | _ => none
def convX (T : TT) (r : Nat → Option X) (dst src t : Nat) (x : X) : Quiet :=
  match tdOf T src, tdOf T t with
    | some (.int _), some (.int k) => intX x fun n => q1 (some (.i k (k.wrap n)))
    | some (.int _), some .str => intX x fun n => if 0 ≤ n ∧ n < 128 then q1 (some (.s [UInt8.ofNat n.toNat])) else none
    | some .str, some .str => match x with
      | .s l => q1 (some (.s l))
      | _ => none
    | some .str, some (.sl e) => match x with
      | .s l => if tdOf T e = some (.int .u8) ∧ small l.length then some (.hw dst, [(dst, .ar 1 (ofBytes l))], []) else none
      | _ => none
    | some (.sl e), some .str => if tdOf T e = some (.int .u8) then (match elems r x with
      | some c => q1 ((toBytes c).map .s)
      | none => none) else none
    | _, _ => none
def makeSlX (T : TT) (dst t : Nat) (l c : Int) : Quiet :=
  match T t with
    | some { td := .sl e, .. } => match T e with
      | some ei => if 0 ≤ l ∧ l ≤ c ∧ c ≤ 2147483647 ∧ ei.bytes ≤ 65536 ∧ 0 < ei.size then some (.hw dst, [(dst, .ar ei.size (List.replicate l.toNat ei.zero.wk))], []) else none
      | none => none
    | _ => none
def sliceX (T : TT) (r : Nat → Option X) (t : Nat) (lo hi mx : Option Operand) (xs : List X) : Quiet :=
  match xs with
  | x :: xs => let p := optX lo xs; let q := optX hi p.2; let m := optX mx q.2
    match T t with
    | some { td := .str, .. } => match x with
      | .s l => q1 (cutS l p.1 q.1 m.1)
      | _ => none
    | some { td := .sl e, .. } => match T e with
      | some ei => q1 (cut r ei.size x p.1 q.1 m.1)
      | none => none
    | _ => none
  | [] => none
def lenV (T : TT) (r : Nat → Option X) (t : Option Nat) (x : X) : Option X :=
  match t.bind fun t => tdOf T t with
      | some (.sl _) => match x with
        | .s _ => none
        | x => (lenX r x).map fun (n : Nat) => .i .i64 n
      | some .str => match x with
        | .s l => some (.i .i64 l.length)
        | _ => none
      | _ => none
def callX (call : FuncId → List X → Option (X × List X)) (an : FuncId → An) (r : Nat → Option X) (dst : Nat) (f : FuncId) (args : List X) : Quiet :=
  if (an f).md.all (· == .rd) then (match frzL r args with
        | some ts => match call f ts with
          | some (res, _) => let q := imp (fun j => 4096 * (j + 1) + dst) 0 res
            some (q.1, q.2.1, if !(an f).hold && res.flat then [] else refsL args)
          | none => none
        | none => none) else none
/-- A function with what it captured. -/
def capX (f : FuncId) (b : Bool) (xs : List X) : Quiet :=
  match b && xs.all (fun x => !x.agg && !x.isBot && !x.isTup) with
  | true => q1 (some (.fn f xs))
  | false => none
def opq (T : TT) (call : FuncId → List X → Option (X × List X)) (an : FuncId → An) (r : Nat → Option X) (dst : Nat) (o : Op) (xs : List X) : Quiet :=
  match o with
  | .move _ => x1 xs fun x => q1 (some x)
  | .assign _ => x1 xs fun x => q1 (some x)
  | .pick _ _ _ => x3 xs fun c x y => q1 (pickX c x y)
  | .alloc e => match T e with
    | some ti => if 0 < ti.size then some (.pt dst 0 [], [(dst, ti.zero.wkA)], []) else none
    | none => none
  | .box e _ => x1 xs fun x => match T e with
    | some ti => if fits ti x ∧ x.isBot = false ∧ 0 < ti.size then some (.pt dst 0 [], [(dst, x)], []) else none
    | none => none
  | .build t ps => q1 (buildX T t (ps.toList.map (·.1)) xs)
  | .buildSlice t n ps => buildSlX T r dst t n (ps.toList.map (·.1)) xs
  | .load t _ => x1 xs fun x => q1 (ldV T r t x)
  | .nilCheck _ => x1 xs fun x => match x with
    | .pt g off p => q1 (some (.pt g off p))
    | .pf y => q1 (some (.pf y))
    | _ => none
  | .binOp op t _ _ _ => x2 xs fun x y => q1 (binvS T op t x y)
  | .unOp op _ _ => x1 xs fun x => q1 (unv op x)
  | .convert src t _ => x1 xs (convX T r dst src t)
  | .makeSlice t _ _ => x2 xs fun l c => intX l fun l => intX c fun c => makeSlX T dst t l c
  | .slice t _ lo hi mx => sliceX T r t lo hi mx xs
  | .fieldAddr t _ f => x1 xs fun x => q1 (fldA T t f x)
  | .field t _ f => x1 xs fun x => q1 (fldV T t f x)
  | .indexAddr t _ _ => x2 xs fun x n => intX n fun n => q1 (idxA T r t x n)
  | .index t _ _ => x2 xs fun x n => intX n fun n => q1 (idxV T t x n)
  | .extract _ j => x1 xs fun x => match x with
    | .tup ys => q1 (ys[j]?)
    | _ => none
  | .call c => match c.callee with
    | .builtin .len => x1 xs fun x => q1 (lenV T r (c.argTypes[0]?) x)
    | .builtin .min => x2 xs fun x y => q1 (mmX false x y)
    | .builtin .max => x2 xs fun x y => q1 (mmX true x y)
    | .value (.func f) => callX call an r dst f xs.tail
    | .value (.tmp _) => match xs with
      | .fn f cap :: args => callX call an r dst f (args ++ cap)
      | _ => none
    | _ => none
  | .makeFunc fn first _ => match fn with
    | .func f => capX f first.isEmpty xs
    | _ => none
  | _ => none
/-- The names of places that come in with parameters begin here. -/
abbrev nlim : Nat := 1000000
def freeN (lim : Nat) (r : Nat → Option X) (g : Nat) : Bool := (r g).isNone && decide (g < lim)
theorem freeN_none {lim : Nat} {r : Nat → Option X} {g : Nat} (h : freeN lim r g = true) : r g = none ∧ g < lim := by
  simpa [freeN] using h
def addR (lim : Nat) (r : Nat → Option X) : List (Nat × X) → Option (Nat → Option X)
  | [] => some r
  | (g, x) :: l => match freeN lim r g with
    | true => addR lim (upd r g (some x)) l
    | false => none
/-- The array g is nobody's any more. -/
def freeze (S : St) (g : Nat) : Option St :=
  match S.r g with
  | some (.ar _ c) => some { t := fun v => (S.t v).sub g c, r := fun h => if h = g then none else (S.r h).map (X.sub g c) }
  | _ => none
def freezeL : St → List Nat → Option St
  | S, [] => some S
  | S, g :: gs => match S.r g with
    | none => freezeL S gs
    | some _ => match freeze S g with
      | some S' => freezeL S' gs
      | none => none
/-- g is gone. -/
def dropIf (S : St) (p : Nat → Bool) : St := { t := fun v => (S.t v).kill p, r := fun h => if p h then none else (S.r h).map (X.kill p) }
def drop (S : St) (g : Nat) : St := dropIf S (· == g)
def put (S : St) (dst : Option Nat) (x : X) : St :=
  match dst with
  | some d => { S with t := upd S.t d x }
  | none => S
def dstOf (o : Oper) : Nat := o.dst.getD 4095
def storeIn (S : St) (ti : TI) (g off : Nat) (p : List Nat) (v : X) : Option (X × St) :=
  match S.r g with
  | some c => match nav c p with
    | some (y, o') => if o' = off ∧ fits ti y ∧ fits ti v ∧ v.isBot = false ∧ (inAr c p = true → v.fz = true) ∧ v.arD = y.arD then some (.bot, { S with r := upd S.r g (some (setAt c p v)) }) else none
    | none => none
  | none => none
def storeX (T : TT) (S : St) (t : Nat) (p v : X) : Option (X × St) :=
  match p with
  | .pt g off p => match T t, S.r g with
    | some ti, some c => if inAr c p then (match frw S.r v, freezeL S v.refs with
        | some v', some S' => storeIn S' ti g off p v'
        | _, _ => none)
      else storeIn S ti g off p v
    | _, _ => none
  | _ => none
/-- What is appended. -/
def moreX (r : Nat → Option X) (td : Option TD) (y : X) : Option (List X) :=
  match td with
  | some (.sl _) => match y with
    | .s _ => none
    | y => elems r y
  | some .str => match y with
    | .s l => some (ofBytes l)
    | _ => none
  | _ => none
def growX (S : St) (dst d : Nat) (c : List X) : Option (X × St) :=
  match freeN nlim S.r dst with
  | true => some (.hw dst, { S with r := upd S.r dst (some (.ar d c)) })
  | false => none
def appendX (T : TT) (S : St) (dst : Nat) (ts : Array Nat) (x y : X) : Option (X × St) :=
  match (ts[0]?).bind T with
  | some { td := .sl e, .. } => match T e, moreX S.r ((ts[1]?).bind fun t => tdOf T t) y with
    | some ei, some ys => if ei.bytes ≤ 65536 ∧ 0 < ei.bytes ∧ 0 < ei.size ∧ ys.all (fun z => z.size == ei.size) then (match x with
        | .hw g => match S.r g with
          | some (.ar d c) => if small (c.length + ys.length) ∧ d = ei.size then growX (drop S g) dst d (c ++ ys) else none
          | _ => none
        | .hd g lo len _ => match S.r g with
          | some (.ar d c) => if small (len + ys.length) ∧ d = ei.size then growX (drop S g) dst d (mid lo len c ++ ys) else none
          | _ => none
        | .sl true zs => if small (zs.length + ys.length) ∧ (zs.isEmpty || !ys.isEmpty) ∧ zs.all (fun z => z.size == ei.size) then growX S dst ei.size (zs ++ ys) else none
        | _ => none) else none
    | _, _ => none
  | _ => none
/-- The first of the elements at lo are others. -/
def splice (c : List X) (lo : Nat) (ys : List X) : List X := c.take lo ++ (ys ++ c.drop (lo + ys.length))
def copyIn (S : St) (g lo len : Nat) (es : Nat) (ys : List X) : Option (X × St) :=
  match S.r g with
  | some (.ar d c) => if d = es ∧ lo + len ≤ c.length ∧ ys.all (fun z => z.size == es) then some (.i .i64 (min len ys.length : Nat), { S with r := upd S.r g (some (.ar d (splice c lo (ys.take len)))) }) else none
  | _ => none
/-- copy into an array of one's own. -/
def copyX (T : TT) (S : St) (ts : Array Nat) (x y : X) : Option (X × St) :=
  match (ts[0]?).bind T with
  | some { td := .sl e, .. } => match T e, moreX S.r ((ts[1]?).bind fun t => tdOf T t) y with
    | some ei, some ys => (match x with
      | .hw g => match S.r g with
        | some (.ar _ c) => copyIn S g 0 c.length ei.size ys
        | _ => none
      | .hd g lo len _ => copyIn S g lo len ei.size ys
      | _ => none)
    | _, _ => none
  | _ => none
/-- A part of an array is zero again. -/
def wipeIn (S : St) (g lo len : Nat) (es : Nat) (z : X) : Option (X × St) :=
  match S.r g with
  | some (.ar d c) => if d = es ∧ lo + len ≤ c.length ∧ 0 < es then some (.tup [], { S with r := upd S.r g (some (.ar d (splice c lo (List.replicate len z)))) }) else none
  | _ => none
def wipeX (T : TT) (S : St) (ts : Array Nat) (x : X) : Option (X × St) :=
  match (ts[0]?).bind T with
  | some { td := .sl e, .. } => match T e with
    | some ei => (match x with
      | .hw g => match S.r g with
        | some (.ar _ c) => wipeIn S g 0 c.length ei.size ei.zero.wk
        | _ => none
      | .hd g lo len _ => wipeIn S g lo len ei.size ei.zero.wk
      | _ => none)
    | none => none
  | _ => none
/-- What goes over, one argument after the other; what is read alone stays for later. -/
def giveL : List Md → (Nat → Option X) → List X → Option (List X × (Nat → Option X))
  | _, r, [] => some ([], r)
  | ms, r, x :: xs => match ms.headD .rd with
    | .rd => (giveL ms.tail r xs).map fun q => (x :: q.1, q.2)
    | .io | .ow => match rei 8 r x with
      | some y => (giveL ms.tail y.2 xs).map fun q => (y.1 :: q.1, q.2)
      | none => none
/-- What is read alone. -/
def lendL : List Md → (Nat → Option X) → List X → Option (List X)
  | _, _, [] => some []
  | ms, r, x :: xs => match ms.headD .rd with
    | .rd => match frz r x, lendL ms.tail r xs with
      | some y, some ys => some (y :: ys)
      | _, _ => none
    | .io | .ow => (lendL ms.tail r xs).map (x :: ·)
def rdL : List Md → List X → List X
  | _, [] => []
  | ms, x :: xs => match ms.headD .rd with
    | .rd => x :: rdL ms.tail xs
    | .io | .ow => rdL ms.tail xs
def topOf : X → Option Nat
  | .pt g 0 [] => some g
  | .hw g => some g
  | _ => none
def contX : X → Option X
  | .ob y => some y
  | .ow d xs => some (.ar d xs)
  | _ => none
/-- The places that come back, and what they hold then. -/
def backL : List Md → List X → List X → Option (List Nat × List X)
  | _, [], _ => some ([], [])
  | ms, x :: xs, os => match ms.headD .rd with
    | .io => match os with
      | o :: os => match topOf x, contX o, backL ms.tail xs os with
        | some g, some c, some q => some (g :: q.1, c :: q.2)
        | _, _, _ => none
      | [] => none
    | .rd | .ow => backL ms.tail xs os.tail
def setTops (r : Nat → Option X) : List Nat → List X → Option (Nat → Option X)
  | [], _ => some r
  | g :: gs, ys => match ys, r g with
    | y :: ys, some c => if y.size = c.size ∧ y.arD = c.arD then setTops (upd r g (some y)) gs ys else none
    | _, _ => none
def gaveN (r r' : Nat → Option X) (g : Nat) : Bool := (r g).isSome && (r' g).isNone
/-- A call to which places go over. -/
def callEff (call : FuncId → List X → Option (X × List X)) (a : An) (S : St) (dst : Nat) (f : FuncId) (args : List X) : Option (X × St) :=
  match giveL a.md S.r args with
  | some gv => match lendL a.md gv.2 gv.1 with
    | some ts => match call f ts with
      | some (res, outs) => match backL a.md args outs with
        | some (tops, cs) =>
          match freezeL (dropIf S fun g => gaveN S.r gv.2 g && !tops.contains g) (if !a.hold && res.flat && flatL cs then [] else refsL (rdL a.md args)) with
          | some S1 => match addR nlim S1.r ((imp (fun j => 4096 * (j + 1) + dst) 0 res).2.1 ++ (impL (fun j => 4096 * (j + 1) + dst) (imp (fun j => 4096 * (j + 1) + dst) 0 res).2.2 cs).2.1) with
            | some r2 => if !(decide tops.Nodup && tops.all fun g => (S1.r g).isSome) then none else match setTops r2 tops (impL (fun j => 4096 * (j + 1) + dst) (imp (fun j => 4096 * (j + 1) + dst) 0 res).2.2 cs).1 with
              | some r3 => some ((imp (fun j => 4096 * (j + 1) + dst) 0 res).1, { S1 with r := r3 })
              | none => none
            | none => none
          | none => none
        | none => none
      | none => none
    | none => none
  | none => none
/-- An operation with an effect. -/
def eff (T : TT) (call : FuncId → List X → Option (X × List X)) (an : FuncId → An) (S : St) (dst : Nat) (o : Op) (xs : List X) : Option (X × St) :=
  match o with
  | .store t _ _ => match xs with
    | [p, v] => storeX T S t p v
    | _ => none
  | .call c => match c.callee with
    | .builtin .append => match xs with
      | [x, y] => appendX T S dst c.argTypes x y
      | _ => none
    | .builtin .copy => match xs with
      | [x, y] => copyX T S c.argTypes x y
      | _ => none
    | .builtin .clear => match xs with
      | [x] => wipeX T S c.argTypes x
      | _ => none
    | .value (.func f) => callEff call (an f) S dst f xs.tail
    | _ => none
  | _ => none
def isEff (an : FuncId → An) : Op → Bool
  | .store _ _ _ => true
  | .call c => match c.callee with
    | .builtin .append => true
    | .builtin .copy => true
    | .builtin .clear => true
    | .value (.func f) => !((an f).md.all (· == .rd))
    | _ => false
  | _ => false
def wantedX (ops : Array Oper) (S : St) (o : Oper) : Option Bool :=
  match o.guard with
  | none => some true
  | some (j, want) => match (ops[j]?).bind (·.dst) with
    | some d => match S.t d with
      | .b v => some (v == want)
      | .tup [] => some false
      | _ => none
    | none => none
def opStep (T : TT) (call : FuncId → List X → Option (X × List X)) (an : FuncId → An) (S : St) (o : Oper) : Option St :=
  if isEff an o.op then (match eff T call an S (dstOf o) o.op (o.op.operands.toList.map S.ev) with
    | some (x, S') => some (put S' o.dst x)
    | none => none)
  else match opq T call an S.r (dstOf o) o.op (o.op.operands.toList.map S.ev) with
    | some (x, news, fl) => match freezeL S fl with
      | some S1 => match addR nlim S1.r news with
        | some r' => some (put { S1 with r := r' } o.dst x)
        | none => none
      | none => none
    | none => none
def runOps (T : TT) (call : FuncId → List X → Option (X × List X)) (an : FuncId → An) (ops : Array Oper) : List Oper → St → Option St
  | [], S => some S
  | o :: l, S => match wantedX ops S o with
    | some true => match opStep T call an S o with
      | some S' => runOps T call an ops l S'
      | none => none
    | some false => runOps T call an ops l (put S o.dst (.tup []))
    | none => none
/-- May an operation make a place? -/
def mkR (T : TT) (o : Oper) : Bool :=
  match o.op with
  | .alloc _ | .box _ _ | .buildSlice _ _ _ | .makeSlice _ _ _ => true
  | .convert _ t _ => match tdOf T t with
    | some (.sl _) => true
    | _ => false
  | .call c => match c.callee with
    | .builtin .len => false
    | _ => match tdOf T o.type with
      | some .bool | some (.int _) | some .str => false
      | _ => true
  | _ => false
/-- An operation of a region whose order is drawn. -/
def qD (T : TT) (call : FuncId → List X → Option (X × List X)) (an : FuncId → An) (ops : Array Oper) (S : St) (o : Oper) : Option (X × List (Nat × X)) :=
  match wantedX ops S o with
  | some true => match opq T call an S.r (dstOf o) o.op (o.op.operands.toList.map S.ev) with
    | some (x, news, []) => if mkR T o || news.isEmpty then some (x, news) else none
    | _ => none
  | some false => some (.tup [], [])
  | none => none
def stepD (T : TT) (call : FuncId → List X → Option (X × List X)) (an : FuncId → An) (ops : Array Oper) (S : St) (o : Oper) : Option St :=
  if isEff an o.op then (match wantedX ops S o with
    | some true => opStep T call an S o
    | some false => some (put S o.dst (.tup []))
    | none => none)
  else match qD T call an ops S o with
    | some (x, news) => match addR nlim S.r news with
      | some r' => some (put { S with r := r' } o.dst x)
      | none => none
    | none => none
/-- Does the operation look into places? -/
def readsR : Op → Bool
  | .move _ | .assign _ | .pick _ _ _ | .alloc _ | .box _ _ | .build _ _ | .nilCheck _ | .binOp _ _ _ _ _ | .unOp _ _ _ | .fieldAddr _ _ _ | .field _ _ _ | .extract _ _ | .store _ _ _ => false
  | _ => true
def dirs (o : Oper) (j : Nat) : Bool := o.after.any fun e => Region.binds .any e && e.on == j
def sameDst (x p : Oper) : Bool := match x.dst, p.dst with
  | some a, some b => a == b
  | _, _ => false
/-- The array g is not in what an operation sees and gives. -/
def clearX (S : St) (g : Nat) (x : Oper) : Bool :=
  !((refsL (x.op.operands.toList.map S.ev)).contains g) && (match x.dst with
    | some d => !((S.t d).refs.contains g)
    | none => true) && (!readsR x.op || (refsL (x.op.operands.toList.map S.ev)).all fun h => match S.r h with
      | some c => !(c.refs.contains g)
      | none => true)
/-- What can be reached from names. -/
def reachN : Nat → (Nat → Option X) → List Nat → List Nat
  | 0, _, l => l
  | n + 1, r, l => l ++ reachN n r (l.flatMap fun g => match r g with
    | some c => c.refs
    | none => [])
def direct (o : Oper) : List Nat := (o.after.toList.filter (Region.binds .any)).map (·.on)
def uniqN : List Nat → List Nat → List Nat
  | [], acc => acc
  | x :: l, acc => match acc.contains x with
    | true => uniqN l acc
    | false => uniqN l (x :: acc)
/-- All slots are different. -/
def distD : List Oper → Bool
  | [] => true
  | o :: l => l.all (fun y => !sameDst o y) && distD l
/-- What comes before, all in all. -/
def upF (ops : Array Oper) : Nat → List Nat → List Nat → List Nat
  | 0, _, acc => acc
  | n + 1, fr, acc => match (uniqN (fr.flatMap fun j => match ops[j]? with
      | some o => direct o
      | none => []) []).filter (fun j => !acc.contains j) with
    | [] => acc
    | x :: l => upF ops n (x :: l) (x :: l ++ acc)
def upO (ops : Array Oper) (p : Oper) : List Nat := upF ops ops.size (uniqN (direct p) []) (uniqN (direct p) [])
/-- The operations that need not come first leave an array alone. -/
def chkA (ops : Array Oper) (l : List Oper) (S : St) (p : Oper) (g : Nat) : Bool := (List.range ops.size).all fun j => match ops[j]? with
  | some x => (upO ops p).contains j || sameDst x p || (distD ops.toList && l.any (sameDst x)) || clearX S g x
  | none => true
/-- A store into a place that none of those that need not come first looks into. -/
def chkS (an : FuncId → An) (ops : Array Oper) (l : List Oper) (S : St) (p : Oper) : Bool :=
  match p.op with
  | .call c => match c.callee with
    | .builtin .append => match wantedX ops S p with
      | some true => (match (p.op.operands.toList.map S.ev).headD .bot with
        | .hw g => chkA ops l S p g
        | .hd g _ _ _ => chkA ops l S p g
        | _ => true)
      | _ => true
    | .value (.func _) => if isEff an p.op then (match wantedX ops S p with
      | some true => (reachN 8 S.r (refsL (p.op.operands.toList.map S.ev))).all (chkA ops l S p)
      | _ => true) else true
    | _ => true
  | .store _ y z => match wantedX ops S p with
    | some true => (match S.ev y with
      | .pt g _ path => (match S.r g with
          | some c => !inAr c path || (S.ev z).refs.isEmpty
          | none => false) && (List.range ops.size).all fun j => match ops[j]? with
            | some x => !readsR x.op || (upO ops p).contains j || (distD ops.toList && l.any (sameDst x)) || !((refsL (x.op.operands.toList.map S.ev)).contains g)
            | none => true
      | _ => false)
    | _ => true
  | _ => true
def runD (T : TT) (call : FuncId → List X → Option (X × List X)) (an : FuncId → An) (ops : Array Oper) : List Oper → St → Option St
  | [], S => some S
  | o :: l, S => if chkS an ops l S o then (match stepD T call an ops S o with
    | some S' => runD T call an ops l S'
    | none => none) else none
def isApp : Op → Bool
  | .call c => match c.callee with
    | .builtin .append => true
    | _ => false
  | _ => false
def isCallF : Op → Bool
  | .call c => match c.callee with
    | .value (.func _) => true
    | _ => false
  | _ => false
def clos : List Oper → List (List Nat) → List (List Nat)
  | [], acc => acc
  | o :: l, acc => clos l (acc ++ [uniqN ((direct o).flatMap fun j => j :: acc.getD j []) []])
/-- The order in which a drawn region is read: what waits for no operation with an effect comes ahead of them. -/
def keysL (an : FuncId → An) : List Oper → List Nat → List Nat
  | [], acc => acc
  | o :: l, acc => keysL an l (acc ++ [2 * (direct o).foldl (fun m j => Nat.max m ((acc.getD j 0 + 1) / 2)) 0 + (if isEff an o.op then 1 else 0)])
def ordOf (an : FuncId → An) (ops : Array Oper) : List Nat :=
  (List.range ((keysL an ops.toList []).foldl Nat.max 0 + 1)).flatMap fun k => (List.range ops.size).filter fun i => (keysL an ops.toList []).getD i 0 == k
def opsOf (an : FuncId → An) (ops : Array Oper) : List Oper := (ordOf an ops).filterMap (ops[·]?)
inductive Ex where
  | go | exit (id : Nat) | ret
  deriving DecidableEq, Inhabited
/-- What is done at a loop's head: the slots and places that stay; arrays that are nobody's from now on; the places of arrays that get another name. -/
structure La where
  keep : List Nat := []
  roots : List Nat := []
  fr : List Nat := []
  ad : List (Nat × List Nat × Nat × Nat) := []
  deriving Inhabited
def setT (S : St) (t : Nat) (x : X) : St := { S with t := upd S.t t x }
def setR (S : St) (g : Nat) (x : X) : St := { S with r := upd S.r g (some x) }
/-- The array of a place gets the name g; an empty slice without memory becomes an array. -/
def adopt (S : St) (t : Nat) (path : List Nat) (g d : Nat) : Option St :=
  match path with
  | [] => match S.t t with
    | .sl true [] => match freeN nlim S.r g with
      | true => some (setT (setR S g (.ar d [])) t (.hw g))
      | false => none
    | .hw h => if h = g then some S else (match freeN nlim S.r g, S.r h with
      | true, some (.ar d c) => some (setT (setR (dropIf S (· == h)) g (.ar d c)) t (.hw g))
      | _, _ => none)
    | .pt h 0 [] => if h = g then some S else (match freeN nlim S.r g, S.r h with
      | true, some c => some (setT (setR (dropIf S (· == h)) g (c.kill (· == h))) t (.pt g 0 []))
      | _, _ => none)
    | .hd h lo len _ => (match freeN nlim (dropIf S (· == h)).r g, S.r h with
      | true, some (.ar d c) => some (setT (setR (dropIf S (· == h)) g (.ar d (mid lo len c))) t (.hw g))
      | _, _ => none)
    | _ => none
  | _ => match S.t t with
    | .pt b 0 [] => match S.r b with
      | some c => match nav c path with
        | some (.sl true [], _) => if inAr c path then none else (match freeN nlim S.r g with
          | true => some (setR (setR S g (.ar d [])) b (setAt c path (.hw g)))
          | false => none)
        | some (.hw h, _) => if h = g then some S else (if inAr c path || h == b then none else (match freeN nlim S.r g, S.r h with
          | true, some (.ar d' cc) => some (setR (setR (dropIf S (· == h)) g (.ar d' cc)) b (setAt (c.kill (· == h)) path (.hw g)))
          | _, _ => none))
        | some (.hd h lo len _, _) => if inAr c path || h == b then none else (match freeN nlim (dropIf S (· == h)).r g, S.r h with
          | true, some (.ar d' cc) => some (setR (setR (dropIf S (· == h)) g (.ar d' (mid lo len cc))) b (setAt (c.kill (· == h)) path (.hw g)))
          | _, _ => none)
        | _ => none
      | none => none
    | _ => none
def adoptL : St → List (Nat × List Nat × Nat × Nat) → Option St
  | S, [] => some S
  | S, (t, p, g, d) :: l => match adopt S t p g d with
    | some S' => adoptL S' l
    | none => none
def keepT (t : Nat → X) : List Nat → Nat → X
  | [] => fun _ => .bot
  | v :: l => upd (keepT t l) v (t v)
def keepR (r : Nat → Option X) : List Nat → Nat → Option X
  | [] => fun _ => none
  | v :: l => upd (keepR r l) v (r v)
def nrmLa (la : La) (S : St) : Option St :=
  match freezeL S ((la.fr.map S.t).flatMap X.refs) with
  | some S1 => match adoptL S1 la.ad with
    | some S2 => let S3 := dropIf { S2 with t := keepT S2.t la.keep } (fun g => !la.roots.contains g)
      some { t := keepT S3.t la.keep, r := keepR S3.r la.roots }
    | none => none
  | none => none
def firstReg : Code → Nat
  | .region id _ _ => id
  | .seq a _ => firstReg a
  | .cond _ a _ => firstReg a
  | .block _ b => firstReg b
  | .loop b => firstReg b
  | .scope b => firstReg b
  | _ => 0
def iter (nrm : St → Option St) (body : St → Option (Ex × St)) : Nat → St → Option (Ex × St)
  | 0, _ => none
  | n + 1, S => match nrm S with
    | some S1 => match body S1 with
      | some (.go, S2) => iter nrm body n S2
      | r => r
    | none => none
def evC (T : TT) (call : FuncId → List X → Option (X × List X)) (an : FuncId → An) (nrm : Nat → St → Option St) (n : Nat) : Code → St → Option (Ex × St)
  | .skip, S => some (.go, S)
  | .region _ ops draw, S => (if draw then runD T call an ops (opsOf an ops) S else runOps T call an ops ops.toList S).map fun S' => (.go, S')
  | .seq a b, S => match evC T call an nrm n a S with
    | some (.go, S') => evC T call an nrm n b S'
    | r => r
  | .cond c a b, S => match S.ev c with
    | .b true => evC T call an nrm n a S
    | .b false => evC T call an nrm n b S
    | _ => none
  | .block id b, S => match evC T call an nrm n b S with
    | some (.exit j, S') => if j = id then some (.go, S') else some (.exit j, S')
    | r => r
  | .loop b, S => iter (nrm (firstReg b)) (evC T call an nrm n b) n S
  | .exit id, S => some (.exit id, S)
  | .label _, S => some (.go, S)
  | .ret, S => some (.ret, S)
  | .scope b, S => evC T call an nrm n b S
  | _, _ => none
abbrev elim : Nat := 1000000000000
/-- The names of a function's parameters that come over with a place of their own. -/
def parNm (j i : Nat) : Nat := 1000000 + 1000 * j + i
def enterX : Nat → List X → List X × List (Nat × X)
  | _, [] => ([], [])
  | j, x :: xs => let q := imp (parNm j) 0 x; let p := enterX (j + 1) xs; (q.1 :: p.1, q.2.1 ++ p.2)
def enter (args : List X) : Option St :=
  let q := enterX 0 args
  match addR elim (fun _ => none) q.2 with
  | some r => some { t := fun v => q.1.getD v .bot, r := r }
  | none => none
def resX (T : TT) (S : St) : List ResultVar → Option (List X)
  | [] => some []
  | .tmp t :: l => (resX T S l).map (S.t t :: ·)
  | .cell a t :: l => match ldV T S.r t (S.t a), resX T S l with
    | some x, some xs => some (x :: xs)
    | _, _ => none
def oneX : List X → X
  | [x] => x
  | xs => .tup xs
/-- The result, with what goes over. -/
def leave (fr : Bool) (S : St) (xs : List X) : Option (List X) :=
  if fr then frzL S.r xs else (reiL (rei 8) S.r xs).map (·.1)
def topX (j : Nat) : X → Option X
  | .ob _ => some (.pt (parNm j 0) 0 [])
  | .ow _ _ => some (.hw (parNm j 0))
  | _ => none
/-- The places of the parameters that go back. -/
def outsX (ms : List Md) : Nat → List X → (Nat → Option X) → Option (List X × (Nat → Option X))
  | _, [], r => some ([], r)
  | j, x :: xs, r => match ms.getD j .rd with
    | .io => match topX j x with
      | some u => match rei 8 r u with
        | some y => (outsX ms (j + 1) xs y.2).map fun q => (y.1 :: q.1, q.2)
        | none => none
      | none => none
    | .rd | .ow => (outsX ms (j + 1) xs r).map fun q => (.bot :: q.1, q.2)
def hasIo (ms : List Md) : Bool := ms.any (· == .io)
def leaveO (a : An) (args : List X) (S : St) (xs : List X) : Option (List X × List X) :=
  if hasIo a.md then (match outsX a.md 0 args S.r with
    | some o => (if a.fr then frzL o.2 xs else (reiL (rei 8) o.2 xs).map (·.1)).map fun ys => (ys, o.1)
    | none => none)
  else (leave a.fr S xs).map fun ys => (ys, [])
def outX (T : TT) (fr : Bool) (rs : List ResultVar) : Option (Ex × St) → Option (List X)
  | some (.go, S) => match resX T S rs with
    | some xs => leave fr S xs
    | none => none
  | some (.ret, S) => match resX T S rs with
    | some xs => leave fr S xs
    | none => none
  | _ => none
/-- An array of nothing, or none at all. -/
def joinX : List X → List X → Option (List X)
  | [.sl true []], [.ow d []] => some [.ow d []]
  | [.sl true []], [.sl false []] => some [.sl false []]
  | _, _ => none
def spRest (T : TT) (call : FuncId → List X → Option (X × List X)) (an : FuncId → An) (nrm : Nat → St → Option St) (n : Nat) (fr : Bool) (rs : List ResultVar) (d : Nat) (A B : Code) (S2 : St) (b : Bool) : Option (List X) :=
  match evC T call an nrm n (.cond (.tmp d) A .skip) (put S2 (some d) (.b b)) with
  | some (.go, S3) => outX T fr rs (evC T call an nrm n B S3)
  | r => outX T fr rs r
/-- A body that asks at once whether a slice is nil: both ways, where the slice is empty. -/
def evSp (T : TT) (call : FuncId → List X → Option (X × List X)) (an : FuncId → An) (nrm : Nat → St → Option St) (n : Nat) (fr : Bool) (rs : List ResultVar) (S0 : St) : Code → Option (List X)
  | .seq r0 (.seq (.seq (.region _ ops false) (.cond (.tmp d) A .skip)) B) => match ops.toList with
    | [o0, o1] => match o0.guard, o1.guard, o1.dst, o1.op with
      | none, none, some d', .binOp .eql t (.tmp u) (.const (.slice none 0 0)) _ => if d' = d then (match evC T call an nrm n r0 S0, tdOf T t with
        | some (.go, S1), some (.sl _) => match opStep T call an S1 o0 with
          | some S2 => match S2.t u with
            | .sl _ xs =>
              if xs.isEmpty then (match spRest T call an nrm n fr rs d A B S2 true, spRest T call an nrm n fr rs d A B S2 false with
                | some x, some y => joinX x y
                | _, _ => none) else spRest T call an nrm n fr rs d A B S2 false
            | _ => none
          | none => none
        | _, _ => none) else none
      | _, _, _, _ => none
    | _ => none
  | _ => none
def evF (T : TT) (an : FuncId → An) (nrm : FuncId → Nat → St → Option St) (fns : FuncId → Option Func) : Nat → FuncId → List X → Option (X × List X)
  | 0, _, _ => none
  | k + 1, f, args => match fns f with
    | some fn => match fn.body with
      | some c => match enter args with
        | some S0 => if (an f).sp then (evSp T (evF T an nrm fns k) an (nrm f) k (an f).fr fn.results.toList S0 c).map fun ys => (oneX ys, []) else match evC T (evF T an nrm fns k) an (nrm f) k c S0 with
          | some (.go, S) => match resX T S fn.results.toList with
            | some xs => (leaveO (an f) args S xs).map fun q => (oneX q.1, q.2)
            | none => none
          | some (.ret, S) => match resX T S fn.results.toList with
            | some xs => (leaveO (an f) args S xs).map fun q => (oneX q.1, q.2)
            | none => none
          | _ => none
        | none => none
      | none => none
    | none => none
end Go.EV
