/- A plain reading of the model's code: values as trees, variables and arrays as named places with one owner; what it computes is held against the model in the texts behind it. -/
import Derived.Below
set_option linter.unusedVariables false
namespace Go.EV
open Go.RowKit

/-- What is known of a value. 'sl': a slice over memory that nobody writes any more (full: its capacity is its length); 'hw g', 'hd g lo len': a slice over the array g, which has one owner; 'pt g off path': a pointer into g; 'pf': a pointer to what nobody writes; 'ow', 'ob': an array, a variable that goes over with the value (between functions alone). -/
inductive X where
  | bot
  | b (v : Bool)
  | i (k : IntKind) (n : Int)
  | s (l : List UInt8)
  | ag (xs : List X)
  | ar (d : Nat) (xs : List X)
  | tup (xs : List X)
  | sl (full : Bool) (xs : List X)
  | hw (g : Nat)
  | hd (g lo len : Nat) (full : Bool)
  | np
  | pt (g off : Nat) (path : List Nat)
  | pf (x : X)
  | nm
  | nf
  | fn (f : FuncId) (cap : List X)
  | ow (d : Nat) (xs : List X)
  | ob (x : X)
  deriving Inhabited

mutual
/-- How many cells. -/
def X.size : X → Nat
  | .ag xs => sizeL xs
  | .ar d xs => d * xs.length
  | .b _ | .i _ _ | .s _ | .sl _ _ | .hw _ | .hd _ _ _ _ | .np | .pt _ _ _ | .pf _ | .nm | .nf | .fn _ _ | .ow _ _ | .ob _ | .bot | .tup _ => 1
def sizeL : List X → Nat
  | [] => 0
  | x :: xs => x.size + sizeL xs
end

/-- A type, as far as it is needed. -/
inductive TD where
  | bool | int (k : IntKind) | str | st (fs : List Nat) | arr (n e : Nat) | sl (e : Nat) | pt (e : Nat) | oth
  deriving Inhabited, DecidableEq
structure TI where
  td : TD
  size : Nat
  bytes : Nat
  zero : X
  deriving Inhabited
abbrev TT := Nat → Option TI
def TD.agg : TD → Bool
  | .st _ | .arr _ _ => true
  | _ => false
def X.agg : X → Bool
  | .ag _ | .ar _ _ => true
  | _ => false
def X.isBot : X → Bool
  | .bot => true
  | _ => false
def X.isTup : X → Bool
  | .tup _ => true
  | _ => false

mutual
/-- Data over memory that nobody writes: no names in it. -/
def X.fz : X → Bool
  | .ag xs => fzL xs
  | .bot | .tup _ | .hw _ | .hd _ _ _ _ | .pt _ _ _ | .fn _ _ | .ow _ _ | .ob _ => false
  | .b _ | .i _ _ | .s _ | .ar _ _ | .sl _ _ | .np | .pf _ | .nm | .nf => true
def fzL : List X → Bool
  | [] => true
  | x :: xs => x.fz && fzL xs
end
mutual
/-- Data without any memory. -/
def X.flat : X → Bool
  | .b _ | .i _ _ | .s _ | .np | .nm | .nf => true
  | .ag xs | .tup xs | .ar _ xs | .ow _ xs => flatL xs
  | .sl _ [] => true
  | .ob x => x.flat
  | .sl _ (_ :: _) | .bot | .hw _ | .hd _ _ _ _ | .pt _ _ _ | .fn _ _ | .pf _ => false
def flatL : List X → Bool
  | [] => true
  | x :: xs => x.flat && flatL xs
end
mutual
/-- The names in it. -/
def X.refs : X → List Nat
  | .ag xs | .tup xs | .fn _ xs => refsL xs
  | .hw g | .hd g _ _ _ | .pt g _ _ => [g]
  | .b _ | .i _ _ | .s _ | .ar _ _ | .sl _ _ | .np | .pf _ | .nm | .nf | .bot | .ow _ _ | .ob _ => []
def refsL : List X → List Nat
  | [] => []
  | x :: xs => x.refs ++ refsL xs
end
mutual
/-- The names of which p holds are gone. -/
def X.kill (p : Nat → Bool) : X → X
  | .ag xs => .ag (killL p xs)
  | .tup xs => .tup (killL p xs)
  | .fn f xs => if (refsL xs).any p then .bot else .fn f xs
  | .hw h => if p h then .bot else .hw h
  | .hd h lo len f => if p h then .bot else .hd h lo len f
  | .pt h o q => if p h then .bot else .pt h o q
  | .b v => .b v | .i k n => .i k n | .s l => .s l | .ar d xs => .ar d xs | .sl f xs => .sl f xs | .np => .np | .pf x => .pf x | .nm => .nm | .nf => .nf | .bot => .bot | .ow d xs => .ow d xs | .ob x => .ob x
def killL (p : Nat → Bool) : List X → List X
  | [] => []
  | x :: xs => x.kill p :: killL p xs
end
mutual
/-- Nothing is known of a slice's room. -/
def X.wk : X → X
  | .ag xs => .ag (wkL xs)
  | .tup xs => .tup (wkL xs)
  | .sl _ xs => .sl false xs
  | .pf x => .pf x.wk
  | .ob x => .ob x.wk
  | .bot => .bot | .b v => .b v | .i k n => .i k n | .s l => .s l | .ar d xs => .ar d xs | .hw g => .hw g | .hd g lo len f => .hd g lo len f | .np => .np | .pt g o p => .pt g o p | .nm => .nm | .nf => .nf | .fn f c => .fn f c | .ow d xs => .ow d xs
def wkL : List X → List X
  | [] => []
  | x :: xs => x.wk :: wkL xs
end
/-- .. of the elements of an array. -/
def X.wkA : X → X
  | .ar d xs => .ar d (wkL xs)
  | x => x
def mid (lo len : Nat) (c : List X) : List X := (c.drop lo).take len
mutual
/-- The array g, of contents c, is nobody's any more. -/
def X.sub (g : Nat) (c : List X) : X → X
  | .ag xs => .ag (subL g c xs)
  | .tup xs => .tup (subL g c xs)
  | .fn f xs => if (refsL xs).contains g then .bot else .fn f xs
  | .hw h => if h = g then .sl false c else .hw h
  | .hd h lo len f => if h = g then .sl f (mid lo len c) else .hd h lo len f
  | .pt h o p => if h = g then .bot else .pt h o p
  | .b v => .b v | .i k n => .i k n | .s l => .s l | .ar d xs => .ar d xs | .sl f xs => .sl f xs | .np => .np | .pf x => .pf x | .nm => .nm | .nf => .nf | .bot => .bot | .ow d xs => .ow d xs | .ob x => .ob x
def subL (g : Nat) (c : List X) : List X → List X
  | [] => []
  | x :: xs => x.sub g c :: subL g c xs
end

def upd {α : Type} (f : Nat → α) (n : Nat) (a : α) : Nat → α := fun m => if m = n then a else f m
structure St where
  t : Nat → X
  r : Nat → Option X

def ofConst : Value → X
  | .bool v => .b v
  | .int k n => .i k n
  | .string s => .s s.data.toList
  | .slice none 0 0 => .sl true []
  | .pointer none => .np
  | .map none => .nm
  | .nilFunc => .nf
  | _ => .bot
def St.ev (S : St) : Operand → X
  | .tmp t => S.t t
  | .const v => ofConst v
  | .func f => .fn f []
  | .global _ => .bot

/-- What lies at a path, and at which cell. -/
def nav : X → List Nat → Option (X × Nat)
  | x, [] => some (x, 0)
  | .ag xs, f :: p => match xs[f]? with
    | some y => (nav y p).map fun z => (z.1, sizeL (xs.take f) + z.2)
    | none => none
  | .ar d xs, f :: p => match xs[f]? with
    | some y => (nav y p).map fun z => (z.1, f * d + z.2)
    | none => none
  | _, _ :: _ => none
/-- Another value at a path. -/
def setAt : X → List Nat → X → X
  | _, [], v => v
  | .ag xs, f :: p, v => match xs[f]? with
    | some y => .ag (xs.set f (setAt y p v))
    | none => .ag xs
  | .ar d xs, f :: p, v => match xs[f]? with
    | some y => .ar d (xs.set f (setAt y p v))
    | none => .ar d xs
  | x, _ :: _, _ => x
/-- Does the path lead into an array? -/
def inAr : X → List Nat → Bool
  | _, [] => false
  | .ag xs, f :: p => match xs[f]? with
    | some y => inAr y p
    | none => false
  | .ar _ _, _ :: _ => true
  | _, _ :: _ => false

def fits (ti : TI) (x : X) : Bool := x.size == ti.size && x.agg == ti.td.agg && !x.isTup

/-- How a function takes a parameter: it reads it; the place goes over and comes back; it goes over. -/
inductive Md where
  | rd | io | ow
  deriving DecidableEq, Inhabited
structure An where
  md : List Md := []
  fr : Bool := false
  sp : Bool := false
  hold : Bool := false
  zap : List (Nat × Nat × List Nat) := []
  deriving Inhabited

/-- What a slice holds. -/
def elems (r : Nat → Option X) : X → Option (List X)
  | .sl _ xs => some xs
  | .hw g => match r g with
    | some (.ar _ c) => some c
    | _ => none
  | .hd g lo len _ => match r g with
    | some (.ar _ c) => some (mid lo len c)
    | _ => none
  | _ => none
/-- A pointer to a place that holds data that is nobody's. -/
def ptF (r : Nat → Option X) (g off : Nat) (p : List Nat) : Option X :=
  match off, p, r g with
  | 0, [], some y => (match y.fz with
    | true => some (.pf y)
    | false => none)
  | _, _, _ => none
theorem ptF_some {r : Nat → Option X} {g off : Nat} {p : List Nat} {z : X} (h : ptF r g off p = some z) : off = 0 ∧ p = [] ∧ ∃ y, r g = some y ∧ y.fz = true ∧ z = .pf y := by
  unfold ptF at h
  split at h
  · rename_i y hy
    split at h
    · rename_i hz
      cases h
      exact ⟨rfl, rfl, y, hy, hz, rfl⟩
    · cases h
  · cases h
mutual
/-- As it is read by a function that writes nothing of it. -/
def frz (r : Nat → Option X) : X → Option X
  | .ag xs => (frzL r xs).map .ag
  | .hw g => match r g with
    | some (.ar _ c) => some (.sl false c)
    | _ => none
  | .hd g lo len f => match r g with
    | some (.ar _ c) => some (.sl f (mid lo len c))
    | _ => none
  | .b v => some (.b v) | .i k n => some (.i k n) | .s l => some (.s l) | .ar d xs => some (.ar d xs) | .sl f xs => some (.sl f xs) | .np => some .np | .pf x => some (.pf x) | .nm => some .nm | .nf => some .nf
  | .pt g off p => ptF r g off p
  | .bot | .tup _ | .fn _ _ | .ow _ _ | .ob _ => none
def frzL (r : Nat → Option X) : List X → Option (List X)
  | [] => some []
  | x :: xs => match frz r x, frzL r xs with
    | some y, some ys => some (y :: ys)
    | _, _ => none
end
/-- .. and nothing known of the room of slices. -/
def frw (r : Nat → Option X) (x : X) : Option X := (frz r x).map X.wk
def frwL (r : Nat → Option X) (xs : List X) : Option (List X) := (frzL r xs).map wkL
mutual
/-- What came over gets names: nm j, nm (j + 1) .. -/
def imp (nm : Nat → Nat) : Nat → X → X × List (Nat × X) × Nat
  | j, .ag xs => let q := impL nm j xs; (.ag q.1, q.2.1, q.2.2)
  | j, .tup xs => let q := impL nm j xs; (.tup q.1, q.2.1, q.2.2)
  | j, .ow d xs => (.hw (nm j), [(nm j, .ar d xs)], j + 1)
  | j, .ob x => let q := imp nm (j + 1) x; (.pt (nm j) 0 [], q.2.1 ++ [(nm j, q.1)], q.2.2)
  | j, .b v => (.b v, [], j) | j, .i k n => (.i k n, [], j) | j, .s l => (.s l, [], j) | j, .ar d xs => (.ar d xs, [], j) | j, .sl f xs => (.sl f xs, [], j) | j, .np => (.np, [], j) | j, .pf x => (.pf x, [], j) | j, .nm => (.nm, [], j) | j, .nf => (.nf, [], j)
  | j, .bot => (.bot, [], j) | j, .hw _ => (.bot, [], j) | j, .hd _ _ _ _ => (.bot, [], j) | j, .pt _ _ _ => (.bot, [], j) | j, .fn _ _ => (.bot, [], j)
def impL (nm : Nat → Nat) : Nat → List X → List X × List (Nat × X) × Nat
  | j, [] => ([], [], j)
  | j, x :: xs => let q := imp nm j x; let p := impL nm q.2.2 xs; (q.1 :: p.1, q.2.1 ++ p.2.1, p.2.2)
end
def X.arD : X → Option (Nat × Nat)
  | .ar d xs => some (d, xs.length)
  | .ag _ | .tup _ | .hw _ | .hd _ _ _ _ | .pt _ _ _ | .fn _ _ | .ow _ _ | .ob _ | .b _ | .i _ _ | .s _ | .sl _ _ | .np | .pf _ | .nm | .nf | .bot => none
mutual
/-- What goes over loses its names: each place once. -/
def reiX (deep : (Nat → Option X) → X → Option (X × (Nat → Option X))) : (Nat → Option X) → X → Option (X × (Nat → Option X))
  | r, .ag xs => (reiL deep r xs).map fun q => (.ag q.1, q.2)
  | r, .hw g => match r g with
    | some (.ar d c) => some (.ow d c, upd r g none)
    | _ => none
  | r, .hd g lo len _ => match r g with
    | some (.ar d c) => some (.ow d (mid lo len c), upd r g none)
    | _ => none
  | r, .pt g off path => if off = 0 ∧ path = [] then (match r g with
      | some y => if y.arD = none ∧ 0 < y.size then (deep (upd r g none) y).map fun q => (.ob q.1, q.2) else none
      | none => none) else none
  | r, .b v => some (.b v, r) | r, .i k n => some (.i k n, r) | r, .s l => some (.s l, r) | r, .ar d xs => some (.ar d xs, r) | r, .sl f xs => some (.sl f xs, r) | r, .np => some (.np, r) | r, .pf x => some (.pf x, r) | r, .nm => some (.nm, r) | r, .nf => some (.nf, r)
  | _, .bot | _, .tup _ | _, .fn _ _ | _, .ow _ _ | _, .ob _ => none
def reiL (deep : (Nat → Option X) → X → Option (X × (Nat → Option X))) : (Nat → Option X) → List X → Option (List X × (Nat → Option X))
  | r, [] => some ([], r)
  | r, x :: xs => match reiX deep r x with
    | some q => (reiL deep q.2 xs).map fun p => (q.1 :: p.1, p.2)
    | none => none
end
/-- (the depth of places in places) -/
def rei : Nat → (Nat → Option X) → X → Option (X × (Nat → Option X))
  | 0 => fun _ _ => none
  | n + 1 => reiX (rei n)
end Go.EV
