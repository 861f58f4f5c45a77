/- Typed plain values: the same reading of a state as Ev's, with lists of Lean's own types in it. -/
import Derived.Test.YtfadalgikdffeaaGreatEv19
import Derived.Test.YtfadalgikdffeaaGreatEv18
set_option linter.unusedVariables false
set_option linter.unusedSimpArgs false
namespace Go.EV
open Go.RowKit
/-- Types of data. A struct is a chain of pairs. -/
inductive Ty where
  | b | i (k : IntKind) | u8 | s | st (c : Ty) | pr (a c : Ty) | sl (e : Ty)
  deriving DecidableEq, Inhabited
def Ty.den : Ty → Type
  | .b => Bool
  | .i _ => Int
  | .u8 => UInt8
  | .s => List UInt8
  | .st c => c.den
  | .pr a c => a.den × c.den
  | .sl e => List e.den
def Ty.dflt : (τ : Ty) → τ.den
  | .b => false
  | .i _ => (0 : Int)
  | .u8 => (0 : UInt8)
  | .s => ([] : List UInt8)
  | .st c => c.dflt
  | .pr a c => (a.dflt, c.dflt)
  | .sl e => ([] : List e.den)
/-- How many cells. -/
def Ty.size : Ty → Nat
  | .pr a c => a.size + c.size
  | .st c => c.size
  | .b | .i _ | .u8 | .s | .sl _ => 1
def Ty.agg : Ty → Bool
  | .st _ | .pr _ _ => true
  | .b | .i _ | .u8 | .s | .sl _ => false
def Ty.flat : Ty → Bool
  | .pr a c => a.flat && c.flat
  | .st c => c.flat
  | .b | .i _ | .u8 | .s => true
  | .sl _ => false
inductive PStep where
  | f (j off : Nat) | x (i d : Nat)
  deriving Inhabited
inductive TX where
  | bot
  | b (v : Bool)
  | i (k : IntKind) (n : Int)
  | s (l : List UInt8)
  | ag (xs : List TX)
  | ar (d : Nat) (τ : Ty) (vs : List τ.den)
  | tup (xs : List TX)
  | sl (full : Bool) (τ : Ty) (vs : List τ.den)
  | emp (full : Bool)
  | hw (g : Nat)
  | hd (g lo len : Nat) (full : Bool)
  | np
  | pt (g : Nat) (ps : List PStep)
  | pf (x : TX)
  | nm
  | nf
  | fn (f : FuncId) (cap : List TX)
  deriving Inhabited
mutual
def emb : (τ : Ty) → τ.den → TX
  | .b, v => .b v
  | .i k, v => .i k v
  | .u8, v => .i .u8 (UInt8.toNat v)
  | .s, v => .s v
  | .st c, v => .ag (embC c v)
  | .pr a c, v => .ag (emb a v.1 :: embC c v.2)
  | .sl e, v => .sl false e v
def embC : (τ : Ty) → τ.den → List TX
  | .b, v => [.b v]
  | .i k, v => [.i k v]
  | .u8, v => [.i .u8 (UInt8.toNat v)]
  | .s, v => [.s v]
  | .st c, v => [.ag (embC c v)]
  | .pr a c, v => emb a v.1 :: embC c v.2
  | .sl e, v => [.sl false e v]
end
mutual
/-- A value of a type, as Ev has it. -/
def embX : (τ : Ty) → τ.den → X
  | .b, v => .b v
  | .i k, v => .i k v
  | .u8, v => .i .u8 (UInt8.toNat v)
  | .s, v => .s v
  | .st c, v => .ag (embXC c v)
  | .pr a c, v => .ag (embX a v.1 :: embXC c v.2)
  | .sl e, v => .sl false (List.map (embX e) v)
def embXC : (τ : Ty) → τ.den → List X
  | .b, v => [.b v]
  | .i k, v => [.i k v]
  | .u8, v => [.i .u8 (UInt8.toNat v)]
  | .s, v => [.s v]
  | .st c, v => [.ag (embXC c v)]
  | .pr a c, v => embX a v.1 :: embXC c v.2
  | .sl e, v => [.sl false (List.map (embX e) v)]
end
def PStep.off : PStep → Nat
  | .f _ o => o
  | .x i d => i * d
def PStep.key : PStep → Nat
  | .f j _ => j
  | .x i _ => i
def offOf : List PStep → Nat
  | [] => 0
  | p :: ps => p.off + offOf ps
def keysOf (ps : List PStep) : List Nat := ps.map PStep.key
mutual
def TX.x : TX → X
  | .bot => .bot
  | .b v => .b v
  | .i k n => .i k n
  | .s l => .s l
  | .ag xs => .ag (txL xs)
  | .ar d τ vs => .ar d (vs.map (embX τ))
  | .tup xs => .tup (txL xs)
  | .sl f τ vs => .sl f (vs.map (embX τ))
  | .emp f => .sl f []
  | .hw g => .hw g
  | .hd g lo len f => .hd g lo len f
  | .np => .np
  | .pt g ps => .pt g (offOf ps) (keysOf ps)
  | .pf x => .pf x.x
  | .nm => .nm
  | .nf => .nf
  | .fn f cap => .fn f (txL cap)
def txL : List TX → List X
  | [] => []
  | x :: xs => x.x :: txL xs
end
structure TS where
  t : Nat → TX
  r : Nat → Option TX
def rX (r : Nat → Option TX) : Nat → Option X := fun g => (r g).map TX.x
def TS.x (S : TS) : St := { t := fun v => (S.t v).x, r := rX S.r }
/-- A value back to its type. -/
def asTy (σ : Ty) (vs : List σ.den) (τ : Ty) : Option (List τ.den) := if h : σ = τ then some (h ▸ vs) else none
def asTyB (σ : Ty) (vs : List σ.den) (e : Ty) : Option (Bool × (Ty.sl e).den) := match asTy σ vs e with
  | some us => some (true, us)
  | none => none
def unB : TX → Option (Bool × Bool)
  | .b v => some (true, v)
  | _ => none
def unI (k : IntKind) : TX → Option (Bool × Int)
  | .i k' n => if k' = k then some (true, n) else none
  | _ => none
def unU8 : TX → Option (Bool × UInt8)
  | .i k' n => if k' = .u8 then some (decide (0 ≤ n) && decide (n ≤ 255), UInt8.ofNat n.toNat) else none
  | _ => none
def unS : TX → Option (Bool × List UInt8)
  | .s l => some (true, l)
  | _ => none
def unSl (e : Ty) : TX → Option (Bool × (Ty.sl e).den)
  | .sl false τ vs => asTyB τ vs e
  | .emp false => some (true, ([] : List e.den))
  | _ => none
def agOf : TX → Option (List TX)
  | .ag xs => some xs
  | _ => none
def lone : List TX → Option TX
  | [x] => some x
  | _ => none
def headT : List TX → Option (TX × List TX)
  | x :: xs => some (x, xs)
  | [] => none
mutual
/-- .. and what must hold for it. -/
def unemb : (τ : Ty) → TX → Option (Bool × τ.den)
  | .b, x => unB x
  | .i k, x => unI k x
  | .u8, x => unU8 x
  | .s, x => unS x
  | .st c, x => match agOf x with
    | some xs => unembC c xs
    | none => none
  | .pr _ _, _ => none
  | .sl e, x => unSl e x
def unembC : (τ : Ty) → List TX → Option (Bool × τ.den)
  | .b, xs => match lone xs with
    | some x => unB x
    | none => none
  | .i k, xs => match lone xs with
    | some x => unI k x
    | none => none
  | .u8, _ => none
  | .s, xs => match lone xs with
    | some x => unS x
    | none => none
  | .st c, xs => match lone xs with
    | some x => (match agOf x with
      | some ys => unembC c ys
      | none => none)
    | none => none
  | .pr a c, xs => match headT xs with
    | some (x, ys) => (match unemb a x with
      | some (p, u) => (match unembC c ys with
        | some (q, v) => some (p && q, (u, v))
        | none => none)
      | none => none)
    | none => none
  | .sl e, xs => match lone xs with
    | some x => unSl e x
    | none => none
end
mutual
/-- Nothing is known of a slice's room. -/
def TX.wk : TX → TX
  | .ag xs => .ag (twkL xs)
  | .tup xs => .tup (twkL xs)
  | .sl _ τ vs => .sl false τ vs
  | .emp _ => .emp false
  | .pf x => .pf x.wk
  | .bot => .bot | .b v => .b v | .i k n => .i k n | .s l => .s l | .ar d τ vs => .ar d τ vs | .hw g => .hw g | .hd g lo len f => .hd g lo len f | .np => .np | .pt g ps => .pt g ps | .nm => .nm | .nf => .nf | .fn f c => .fn f c
def twkL : List TX → List TX
  | [] => []
  | x :: xs => x.wk :: twkL xs
end
end Go.EV
