/- Operations on typed values, one after the other; what comes behind is handed on. -/
import Derived.Test.YtfadalgikdffeaaGreatTvO
set_option linter.unusedVariables false
set_option linter.unusedSimpArgs false
namespace Go.EV
open Go.RowKit
def t1 (xs : List TX) (f : TX → QT) : QT := match xs with | [x] => f x | _ => none
def t2 (xs : List TX) (f : TX → TX → QT) : QT := match xs with | [x, y] => f x y | _ => none
def tint (x : TX) (f : Int → QT) : QT := match x with | .i _ n => f n | _ => none
def qv (x : TX) : QT := some (true, x, [], [])
def nilT : TX → QT
  | .pt g ps => qv (.pt g ps)
  | .pf y => qv (.pf y)
  | _ => none
def extT (j : Nat) : TX → QT
  | .tup ys => match ys[j]? with
    | some y => qv y
    | none => none
  | _ => none
def allocT (T : TT) (Y : Nat → Option Ty) (dst e : Nat) : QT :=
  match T e with
  | some ti => if 0 < ti.size then (match zeroT T Y e with
    | some z => some (true, .pt dst [], [(dst, z)], [])
    | none => none) else none
  | none => none
def boxT (T : TT) (dst e : Nat) (x : TX) : QT :=
  match T e with
  | some ti => if 0 < ti.size ∧ x.isBot = false then some (fitsT ti x, .pt dst [], [(dst, x)], []) else none
  | none => none
def capT (f : FuncId) (b : Bool) (xs : List TX) : QT :=
  match b && xs.all (fun x => !x.agg && !x.isBot && !x.isTup) with
  | true => qv (.fn f xs)
  | false => none
theorem all_capT : ∀ xs : List TX, (txL xs).all (fun x => !x.agg && !x.isBot && !x.isTup) = xs.all (fun x => !x.agg && !x.isBot && !x.isTup)
  | [] => rfl
  | x :: xs => by simp only [txL, List.all_cons, agg_x, bot_x, tup_x, all_capT xs]
def opqT (T : TT) (Y : Nat → Option Ty) (r : Nat → Option TX) (dst : Nat) (o : Op) (xs : List TX) : QT :=
  match o with
  | .move _ => t1 xs qv
  | .assign _ => t1 xs qv
  | .alloc e => allocT T Y dst e
  | .box e _ => t1 xs (boxT T dst e)
  | .build t ps => qt (buildT T Y t (ps.toList.map (·.1)) xs)
  | .buildSlice t n ps => buildSlT T Y r dst t n (ps.toList.map (·.1)) xs
  | .load t _ => t1 xs fun x => qt (ldVT T r t x)
  | .nilCheck _ => t1 xs nilT
  | .binOp op t _ _ _ => t2 xs fun x y => qt (binvST T op t x y)
  | .unOp op _ _ => t1 xs fun x => qt (unvT op x)
  | .convert src t _ => t1 xs (convT T r dst src t)
  | .makeSlice t _ _ => t2 xs fun l c => tint l fun l => tint c fun c => makeSlT T Y dst t l c
  | .slice t _ lo hi mx => sliceT T r t lo hi mx xs
  | .fieldAddr t _ f => t1 xs fun x => qt (fldAT T t f x)
  | .field t _ f => t1 xs fun x => qt (fldVT T t f x)
  | .indexAddr t _ _ => t2 xs fun x n => tint n fun n => qt (idxAT T r t x n)
  | .index t _ _ => t2 xs fun x n => tint n fun n => qt (idxVT T t x n)
  | .extract _ j => t1 xs (extT j)
  | .makeFunc fn first _ => match fn with
    | .func f => capT f first.isEmpty xs
    | _ => none
  | .call c => match c.callee with
    | .builtin .len => t1 xs fun x => qt (lenVT T r (c.argTypes[0]?) x)
    | .builtin .min => t2 xs fun x y => qt (mmT false x y)
    | .builtin .max => t2 xs fun x y => qt (mmT true x y)
    | _ => none
  | _ => none
section
variable {T : TT} {Y : Nat → Option Ty} {call : FuncId → List X → Option (X × List X)} {an : FuncId → An} {r : Nat → Option TX} {dst : Nat} {z : TX} {news : List (Nat × TX)} {fl : List Nat}
theorem t1_ok {xs : List TX} {f : TX → QT} {g : X → Quiet} (h : t1 xs f = some (true, z, news, fl)) (hf : ∀ x, f x = some (true, z, news, fl) → g x.x = some (z.x, newsX news, fl)) : x1 (txL xs) g = some (z.x, newsX news, fl) := by
  unfold t1 at h
  split at h
  · simp only [txL, x1]; exact hf _ h
  · cases h
theorem t2_ok {xs : List TX} {f : TX → TX → QT} {g : X → X → Quiet} (h : t2 xs f = some (true, z, news, fl)) (hf : ∀ x y, f x y = some (true, z, news, fl) → g x.x y.x = some (z.x, newsX news, fl)) : x2 (txL xs) g = some (z.x, newsX news, fl) := by
  unfold t2 at h
  split at h
  · simp only [txL, x2]; exact hf _ _ h
  · cases h
theorem tint_ok {x : TX} {f : Int → QT} {g : Int → Quiet} (h : tint x f = some (true, z, news, fl)) (hf : ∀ n, f n = some (true, z, news, fl) → g n = some (z.x, newsX news, fl)) : intX x.x g = some (z.x, newsX news, fl) := by
  unfold tint at h
  split at h
  · simp only [TX.x, intX]; exact hf _ h
  · cases h
theorem qv_ok {x : TX} (h : qv x = some (true, z, news, fl)) : q1 (some x.x) = some (z.x, newsX news, fl) := by
  unfold qv at h; cases h; rfl
theorem qt_ok {q : CT} {p : Option X} (h : qt q = some (true, z, news, fl)) (hp : q = some (true, z) → p = some z.x) : q1 p = some (z.x, newsX news, fl) := by
  obtain ⟨h1, rfl, rfl⟩ := qt_some h
  rw [hp h1]; rfl
theorem opqT_ok {o : Op} {xs : List TX} (h : opqT T Y r dst o xs = some (true, z, news, fl)) : opq T call an (rX r) dst o (txL xs) = some (z.x, newsX news, fl) := by
  cases o <;> simp only [opqT, reduceCtorEq] at h <;> simp only [opq]
  case move => exact t1_ok h fun x hx => qv_ok hx
  case assign => exact t1_ok h fun x hx => qv_ok hx
  case alloc e =>
    unfold allocT at h
    split at h
    · rename_i ti ht
      split at h
      · rename_i hs
        split at h
        · rename_i y hy
          cases h
          obtain ⟨ti', ht', hz⟩ := zeroT_ok hy
          rw [ht] at ht'; cases ht'
          simp [ht, hs, TX.x, newsX, hz, offOf, keysOf]
        · cases h
      · cases h
    · cases h
  case box e y =>
    refine t1_ok h fun x hx => ?_
    unfold boxT at hx
    split at hx
    · rename_i ti ht
      split at hx
      · rename_i hs
        simp only [Option.some.injEq, Prod.mk.injEq] at hx
        obtain ⟨h1, rfl, rfl, rfl⟩ := hx
        simp [ht, fits_x, h1, bot_x, hs, TX.x, newsX, offOf, keysOf]
      · cases hx
    · cases hx
  case build => exact qt_ok h fun h => buildT_ok h
  case buildSlice => exact buildSlT_ok h
  case load => exact t1_ok h fun x hx => qt_ok hx fun h => ldVT_ok h
  case nilCheck =>
    refine t1_ok h fun x hx => ?_
    unfold nilT at hx
    split at hx
    · exact qv_ok hx
    · exact qv_ok hx
    · cases hx
  case binOp => exact t2_ok h fun x y hx => qt_ok hx fun h => binvST_ok h
  case unOp => exact t1_ok h fun x hx => qt_ok hx fun h => unvT_ok h
  case convert => exact t1_ok h fun x hx => convT_ok hx
  case makeSlice => exact t2_ok h fun x y hx => tint_ok hx fun n hx => tint_ok hx fun m hx => makeSlT_ok hx
  case slice => exact sliceT_ok h
  case fieldAddr => exact t1_ok h fun x hx => qt_ok hx fun h => fldAT_ok h
  case field => exact t1_ok h fun x hx => qt_ok hx fun h => fldVT_ok h
  case indexAddr => exact t2_ok h fun x y hx => tint_ok hx fun n hx => qt_ok hx fun h => idxAT_ok h
  case index => exact t2_ok h fun x y hx => tint_ok hx fun n hx => qt_ok hx fun h => idxVT_ok h
  case extract e j =>
    refine t1_ok h fun x hx => ?_
    unfold extT at hx
    split at hx
    · split at hx
      · rename_i ys y hy
        have := qv_ok hx
        simp only [TX.x, txL_get, hy, Option.map_some]
        exact this
      · cases hx
    · cases hx
  case makeFunc fn first cap =>
    split at h
    · unfold capT at h
      split at h
      · rename_i hb
        simp only [capX, all_capT, hb]
        exact qv_ok h
      · cases h
    · cases h
  case call c =>
    split at h
    · rename_i hc
      simp only [hc]
      exact t1_ok h fun x hx => qt_ok hx fun h => lenVT_ok h
    · rename_i hc
      simp only [hc]
      exact t2_ok h fun x y hx => qt_ok hx fun h => mmT_ok h
    · rename_i hc
      simp only [hc]
      exact t2_ok h fun x y hx => qt_ok hx fun h => mmT_ok h
    · cases h
end
def effT (T : TT) (Y : Nat → Option Ty) (S : TS) (dst : Nat) (o : Op) (xs : List TX) : Option (Bool × TX × TS) :=
  match o with
  | .store t _ _ => match xs with
    | [p, v] => match storeT T S t p v with
      | some (c, S') => some (c, .bot, S')
      | none => none
    | _ => none
  | .call c => match c.callee with
    | .builtin .append => match xs with
      | [x, y] => appendT T Y S dst c.argTypes x y
      | _ => none
    | .builtin .copy => match xs with
      | [x, y] => copyT T Y S c.argTypes x y
      | _ => none
    | .builtin .clear => match xs with
      | [x] => wipeT T Y S c.argTypes x
      | _ => none
    | _ => none
  | _ => none
theorem effT_ok {T : TT} {Y : Nat → Option Ty} {call : FuncId → List X → Option (X × List X)} {an : FuncId → An} {S S' : TS} {dst : Nat} {o : Op} {xs : List TX} {z : TX} (h : effT T Y S dst o xs = some (true, z, S')) : eff T call an S.x dst o (txL xs) = some (z.x, S'.x) := by
  unfold effT at h
  split at h
  · split at h
    · split at h
      · rename_i hs
        simp only [Option.some.injEq, Prod.mk.injEq] at h
        obtain ⟨rfl, rfl, rfl⟩ := h
        simp only [eff, txL, storeT_ok hs, TX.x]
      · cases h
    · cases h
  · rename_i c
    split at h
    · rename_i hc
      split at h
      · simp only [eff, hc, txL, appendT_ok h]
      · cases h
    · rename_i hc
      split at h
      · simp only [eff, hc, txL, copyT_ok h]
      · cases h
    · rename_i hc
      split at h
      · simp only [eff, hc, txL, wipeT_ok h]
      · cases h
    · cases h
  · cases h
/-- A store into a place that none of those that need not come first looks into. -/
def headTX : List TX → TX
  | x :: _ => x
  | [] => .bot
def placesClear (S : TS) (g : Nat) : List Nat → Bool
  | [] => true
  | h :: hs => (match S.r h with
    | some c => !(c.refs.contains g)
    | none => true) && placesClear S g hs
def clearT (S : TS) (g : Nat) (x : Oper) : Bool :=
  !((trefsL (x.op.operands.toList.map S.ev)).contains g) && (match x.dst with
    | some d => !((S.t d).refs.contains g)
    | none => true) && (!readsR x.op || placesClear S g (trefsL (x.op.operands.toList.map S.ev)))
def reachT : Nat → (Nat → Option TX) → List Nat → List Nat
  | 0, _, l => l
  | n + 1, r, l => l ++ reachT n r (l.flatMap fun g => match r g with
    | some c => c.refs
    | none => [])
def chkBT (ops : Array Oper) (l : List Oper) (S : TS) (p : Oper) (g : Nat) : Bool :=
  (List.range ops.size).all fun j => match ops[j]? with
    | some x => (upO ops p).contains j || sameDst x p || (distD ops.toList && l.any (sameDst x)) || clearT S g x
    | none => true
def chkLT (ops : Array Oper) (l : List Oper) (S : TS) (p : Oper) : List Nat → Bool
  | [] => true
  | g :: gs => chkBT ops l S p g && chkLT ops l S p gs
def chkST (an : FuncId → An) (ops : Array Oper) (l : List Oper) (S : TS) (p : Oper) : Bool :=
  match p.op with
  | .call c => match c.callee with
    | .builtin .append => (match headTX (p.op.operands.toList.map S.ev) with
      | .hw g => chkBT ops l S p g
      | .hd g _ _ _ => chkBT ops l S p g
      | _ => true)
    | .value (.func f) => if (an f).md.all (· == .rd) then true else chkLT ops l S p (uniqN (reachT 8 S.r (trefsL (p.op.operands.toList.map S.ev))) [])
    | _ => true
  | .store _ y z => match S.ev y with
    | .pt g ps => (match S.r g with
        | some c => (match navT c ps with
          | some _ => !ps.any PStep.isX || (S.ev z).refs.isEmpty
          | none => false)
        | none => false) && (List.range ops.size).all fun j => match ops[j]? with
          | some x => !readsR x.op || (upO ops p).contains j || (distD ops.toList && l.any (sameDst x)) || !((trefsL (x.op.operands.toList.map S.ev)).contains g)
          | none => true
    | _ => false
  | _ => true
theorem map_ev (S : TS) (l : List Operand) : txL (l.map S.ev) = l.map S.x.ev := by
  induction l with
  | nil => rfl
  | cons o l ih => simp only [List.map_cons, txL, ev_x, ih]
theorem headTX_x (xs : List TX) : (headTX xs).x = (txL xs).headD .bot := by
  cases xs <;> rfl
theorem placesClear_ok {S : TS} {g : Nat} : ∀ {l : List Nat}, placesClear S g l = true → (l.all fun h => match S.x.r h with | some c => !(c.refs.contains g) | none => true) = true
  | [], _ => rfl
  | h :: hs, hh => by
    simp only [placesClear, Bool.and_eq_true] at hh
    simp only [List.all_cons, Bool.and_eq_true]
    refine ⟨?_, placesClear_ok hh.2⟩
    cases hr : S.r h with
    | none =>
      have : S.x.r h = none := by simp [TS.x, rX, hr]
      rw [this]
    | some c =>
      have : S.x.r h = some c.x := by simp [TS.x, rX, hr]
      rw [this]
      have h1 := hh.1
      rw [hr] at h1
      simpa only [refs_x] using h1
theorem clearT_ok {S : TS} {g : Nat} {x : Oper} (h : clearT S g x = true) : clearX S.x g x = true := by
  unfold clearT at h
  simp only [Bool.and_eq_true] at h
  obtain ⟨⟨h1, h2⟩, h3⟩ := h
  unfold clearX
  rw [← map_ev, refsL_x]
  simp only [Bool.and_eq_true]
  refine ⟨⟨h1, ?_⟩, ?_⟩
  · cases hd : x.dst with
    | none => rfl
    | some d =>
      rw [hd] at h2
      have : (S.x.t d).refs = (S.t d).refs := refs_x _
      simp only [this]
      exact h2
  · simp only [Bool.or_eq_true] at h3 ⊢
    exact h3.imp id placesClear_ok
theorem reachT_x (S : TS) : ∀ (n : Nat) (l : List Nat), reachN n S.x.r l = reachT n S.r l
  | 0, l => rfl
  | n + 1, l => by
    simp only [reachN, reachT]
    rw [← reachT_x S n]
    congr 2
    refine congrFun (congrArg List.flatMap (funext fun g => ?_)) l
    cases hr : S.r g with
    | none =>
      have : S.x.r g = none := by simp [TS.x, rX, hr]
      rw [this]
    | some c =>
      have : S.x.r g = some c.x := by simp [TS.x, rX, hr]
      rw [this]
      simp only [refs_x]
theorem uniqN_mem : ∀ (l acc : List Nat) (g : Nat), g ∈ l ∨ g ∈ acc → g ∈ uniqN l acc
  | [], acc, g, h => by simp only [uniqN]; simpa using h
  | x :: l, acc, g, h => by
    simp only [uniqN]
    split
    · rename_i hc
      refine uniqN_mem l acc g ?_
      rcases h with h | h
      · rcases List.mem_cons.1 h with rfl | h
        · exact .inr (by simpa using hc)
        · exact .inl h
      · exact .inr h
    · refine uniqN_mem l (x :: acc) g ?_
      rcases h with h | h
      · rcases List.mem_cons.1 h with rfl | h
        · exact .inr (by simp)
        · exact .inl h
      · exact .inr (by simp [h])
theorem chkBT_ok {ops : Array Oper} {l : List Oper} {S : TS} {p : Oper} {g : Nat} (h : chkBT ops l S p g = true) : chkA ops l S.x p g = true := by
  refine List.all_eq_true.2 fun j hj => ?_
  have h3 := List.all_eq_true.1 h j hj
  cases hj' : ops[j]? with
  | none => rfl
  | some q =>
    rw [hj'] at h3
    simp only [Bool.or_eq_true] at h3 ⊢
    rcases h3 with h3 | h3
    · exact .inl h3
    · exact .inr (clearT_ok h3)
theorem chkLT_ok {ops : Array Oper} {l : List Oper} {S : TS} {p : Oper} : ∀ {m : List Nat}, chkLT ops l S p m = true → ∀ g ∈ m, chkA ops l S.x p g = true
  | [], h, g, hg => by simp at hg
  | x :: m, h, g, hg => by
    simp only [chkLT, Bool.and_eq_true] at h
    rcases List.mem_cons.1 hg with rfl | hg
    · exact chkBT_ok h.1
    · exact chkLT_ok h.2 g hg
theorem chkST_ok {an : FuncId → An} {ops : Array Oper} {l : List Oper} {S : TS} {p : Oper} (h : chkST an ops l S p = true) : chkS an ops l S.x p = true := by
  unfold chkST at h
  unfold chkS
  split at h
  · rename_i c hop
    simp only [hop]
    split at h
    · rename_i hcal
      simp only [hcal]
      split
      · have hh := headTX_x (p.op.operands.toList.map S.ev)
        rw [map_ev] at hh
        rw [← hop, ← hh]
        split at h
        · rename_i g hg
          rw [hg]
          exact chkBT_ok h
        · rename_i g lo len f hg
          rw [hg]
          exact chkBT_ok h
        · rename_i n1 n2
          cases hx : headTX (p.op.operands.toList.map S.ev) <;> simp only [TX.x]
          · exact (n1 _ hx).elim
          · exact (n2 _ _ _ _ hx).elim
      · rfl
    · rename_i f hcal
      simp only [hcal]
      split
      · rename_i hie
        split
        · rw [if_neg (by simpa [isEff, hcal] using hie)] at h
          refine List.all_eq_true.2 fun g hg => ?_
          rw [← hop, ← map_ev, refsL_x, reachT_x] at hg
          exact chkLT_ok h g (uniqN_mem _ _ g (.inl hg))
        · rfl
      · rfl
    · rename_i hcal hcal2
      cases hc : c.callee with
      | builtin b => cases b <;> first | rfl | exact (hcal hc).elim
      | value f => cases f <;> first | rfl | exact (hcal2 _ hc).elim
      | invoke r m => rfl
  · rename_i t y z hop
    simp only [hop]
    split
    · split at h
      · rename_i g ps he
        have he' : S.x.ev y = .pt g (offOf ps) (keysOf ps) := by rw [← ev_x, he]; simp [TX.x]
        simp only [Bool.and_eq_true] at h
        obtain ⟨h1, h2⟩ := h
        simp only [he', Bool.and_eq_true]
        refine ⟨?_, ?_⟩
        · split at h1
          · rename_i c hg
            have hg' : S.x.r g = some c.x := by simp [TS.x, rX, hg]
            split at h1
            · rename_i q hn
              simp only [hg', inAr_ok hn, ← ev_x, refs_x]
              exact h1
            · cases h1
          · cases h1
        · refine List.all_eq_true.2 fun j hj => ?_
          have h3 := List.all_eq_true.1 h2 j hj
          cases hj' : ops[j]? with
          | none => rfl
          | some q =>
            rw [hj'] at h3
            simp only [← map_ev, refsL_x]
            exact h3
      · cases h
    · rfl
  · rename_i hop1 hop2
    split
    · rename_i c h2
      exact (hop1 _ h2).elim
    · rename_i h2
      exact (hop2 _ _ _ h2).elim
    · rfl
section
variable {ρ : Type}
def refineT (S : TS) : Operand → Bool → TS
  | .tmp t, v => { S with t := upd S.t t (.b v) }
  | _, _ => S
/-! A value is computed before it is kept. -/
def forceP {R : Type} : List PStep → (List PStep → R) → R
  | [], k => k []
  | .f j o :: ps, k => forceP ps fun qs => k (.f j o :: qs)
  | .x i d :: ps, k => forceP ps fun qs => k (.x i d :: qs)
def forceB {R : Type} (b : Bool) (k : Bool → R) : R := match b with
  | true => k true
  | false => k false
mutual
def forceT {R : Type} : TX → (TX → R) → R
  | .ag xs, k => forceTL xs fun ys => k (.ag ys)
  | .tup xs, k => forceTL xs fun ys => k (.tup ys)
  | .pf x, k => forceT x fun y => k (.pf y)
  | .pt g ps, k => forceP ps fun qs => k (.pt g qs)
  | .sl f τ vs, k => forceB f fun f => k (.sl f τ vs)
  | .emp f, k => forceB f fun f => k (.emp f)
  | .hd g lo len f, k => forceB f fun f => k (.hd g lo len f)
  | .b v, k => k (.b v)
  | .i n v, k => k (.i n v)
  | .s l, k => k (.s l)
  | .ar d τ vs, k => k (.ar d τ vs)
  | .hw g, k => k (.hw g)
  | .np, k => k .np
  | .nm, k => k .nm
  | .nf, k => k .nf
  | .bot, k => k .bot
  | .fn f c, k => k (.fn f c)
def forceTL {R : Type} : List TX → (List TX → R) → R
  | [], k => k []
  | x :: xs, k => forceT x fun y => forceTL xs fun ys => k (y :: ys)
end
theorem forceP_eq {R : Type} : ∀ (ps : List PStep) (k : List PStep → R), forceP ps k = k ps
  | [], k => rfl
  | .f j o :: ps, k => by simp only [forceP]; rw [forceP_eq ps]
  | .x i d :: ps, k => by simp only [forceP]; rw [forceP_eq ps]
theorem forceB_eq {R : Type} (b : Bool) (k : Bool → R) : forceB b k = k b := by cases b <;> rfl
mutual
theorem forceT_eq {R : Type} : ∀ (x : TX) (k : TX → R), forceT x k = k x
  | .ag xs, k => by simp only [forceT]; rw [forceTL_eq xs]
  | .tup xs, k => by simp only [forceT]; rw [forceTL_eq xs]
  | .pf x, k => by simp only [forceT]; rw [forceT_eq x]
  | .pt g ps, k => by simp only [forceT, forceP_eq]
  | .sl f τ vs, k | .emp f, k | .hd g lo len f, k => by simp only [forceT, forceB_eq]
  | .b v, k | .i n v, k | .s l, k | .ar d τ vs, k | .hw g, k | .np, k | .nm, k | .nf, k | .bot, k | .fn f c, k => by simp only [forceT]
theorem forceTL_eq {R : Type} : ∀ (xs : List TX) (k : List TX → R), forceTL xs k = k xs
  | [], k => rfl
  | x :: xs, k => by simp only [forceTL]; rw [forceT_eq x, forceTL_eq xs]
end
def forceN {R : Type} : List (Nat × TX) → (List (Nat × TX) → R) → R
  | [], k => k []
  | (g, x) :: l, k => forceT x fun y => forceN l fun m => k ((g, y) :: m)
theorem forceN_eq {R : Type} : ∀ (l : List (Nat × TX)) (k : List (Nat × TX) → R), forceN l k = k l
  | [], k => rfl
  | (g, x) :: l, k => by simp only [forceN, forceT_eq, forceN_eq l]
def forceG {R : Type} (S : TS) (g : Nat) (k : TS → R) : R :=
  match S.r g with
  | some x => forceT x fun y => k { S with r := upd S.r g (some y) }
  | none => k S
theorem forceG_eq {R : Type} (S : TS) (g : Nat) (k : TS → R) : forceG S g k = k S := by
  unfold forceG
  split
  · rename_i x h
    rw [forceT_eq]
    have : upd S.r g (some x) = S.r := by
      funext v; simp only [upd]; split
      · rename_i e; rw [e, h]
      · rfl
    rw [this]
  · rfl
/-- The place that an effect writes. -/
def placeOf (dst : Nat) : List TX → Nat
  | .pt g _ :: _ => g
  | _ => dst
/-- What is named and kept, then what comes behind. -/
def contK (draw : Bool) (T : TT) (S : TS) (o : Oper) (q : QT) (k : TS → Option ρ) : Option ρ :=
  match q with
  | some (c, x, news, fl) => if draw && !(fl.isEmpty && (mkR T o || news.isEmpty)) then none else match freezeTL S fl with
    | some S1 => forceN news fun news => match addRT nlim S1.r news with
      | some r' => cond c (forceT x fun x => k (putT { S1 with r := r' } o.dst x)) none
      | none => none
    | none => none
  | none => none
mutual
/-- Whether a pointer is nil is asked first. -/
def forceR {R : Type} : (s : RSh) → s.den → (s.den → Option R) → Option R
  | .opt s, v, k => Option.elim v (k none) fun u => forceR s u fun u => k (some u)
  | .pr a c, v, k => forceR a v.1 fun x => forceR c v.2 fun y => k (x, y)
  | .ag c, v, k => forceR c v k
  | .tup c, v, k => forceR c v k
  | .ob s, v, k => forceR s v k
  | .ty _, v, k => k v
  | .ow _ _, v, k => k v
  | .np, v, k => k v
  | .un, v, k => k v
end
theorem elim_some {α β : Type} {v : Option α} {a : Option β} {f : α → Option β} {b : β} (h : Option.elim v a f = some b) : (v = none ∧ a = some b) ∨ ∃ u, v = some u ∧ f u = some b := by
  cases v with
  | none => exact .inl ⟨rfl, h⟩
  | some u => exact .inr ⟨u, rfl, h⟩
theorem forceR_eq {R : Type} : ∀ (s : RSh) (v : s.den) (k : s.den → Option R), forceR s v k = k v
  | .opt s, v, k => by
    cases v with
    | none => rfl
    | some u => simp only [forceR, Option.elim]; exact forceR_eq s u _
  | .pr a c, v, k => by simp only [forceR]; rw [forceR_eq a, forceR_eq c]; exact congrArg k rfl
  | .ag c, v, k => by simp only [forceR]; exact forceR_eq c v k
  | .tup c, v, k => by simp only [forceR]; exact forceR_eq c v k
  | .ob s, v, k => by simp only [forceR]; exact forceR_eq s v k
  | .ty _, v, k => rfl
  | .ow _ _, v, k => rfl
  | .np, v, k => rfl
  | .un, v, k => rfl
def RSh.hasOpt : RSh → Bool
  | .opt _ => true
  | .pr a c => a.hasOpt || c.hasOpt
  | .ag c => c.hasOpt
  | .tup c => c.hasOpt
  | .ob s => s.hasOpt
  | .ty _ | .ow _ _ | .np | .un => false
def askR {R : Type} (s : RSh) (v : s.den) (k : s.den → Option R) : Option R := match s.hasOpt with
  | true => forceR s v k
  | false => k v
theorem askR_eq {R : Type} (s : RSh) (v : s.den) (k : s.den → Option R) : askR s v k = k v := by
  unfold askR
  split
  · exact forceR_eq s v k
  · rfl
def callK (T : TT) (env : Env) (an : FuncId → An) (draw : Bool) (S : TS) (o : Oper) (f : FuncId) (args : List TX) (k : TS → Option ρ) : Option ρ :=
  if (an f).md.all (· == .rd) then (match frzTL S.r args with
    | some ts => match env f with
      | some inf => match unP inf.ps ts with
        | some (c, a) => if (an f).hold || inf.rs.flat then cond c (Option.bind (inf.G a) fun p => askR inf.rs (pairD.fst (osOf inf.ps) p) fun v =>
            contK draw T S o (some (true, (impR (fun j => 4096 * (j + 1) + dstOf o) inf.rs v 0).1, (impR (fun j => 4096 * (j + 1) + dstOf o) inf.rs v 0).2.1, if (an f).hold then trefsL args else [])) k) none else none
        | none => none
      | none => none
    | none => none) else none
def effCall : Op → Option (FuncId × List Operand)
  | .call c => match c.callee with
    | .value (.func f) => some (f, c.args.toList)
    | _ => none
  | _ => none
def gaveT (r r' : Nat → Option TX) (g : Nat) : Bool := match r g with
  | some _ => (match r' g with
    | none => true
    | some _ => false)
  | none => false
theorem gaveT_ok (r r' : Nat → Option TX) (g : Nat) : gaveN (rX r) (rX r') g = gaveT r r' g := by
  unfold gaveN gaveT rX
  cases r g <;> cases r' g <;> rfl
def sameMd : List Md → List Md → Bool
  | [], [] => true
  | a :: l, b :: m => (match a, b with
    | .rd, .rd => true
    | .io, .io => true
    | .ow, .ow => true
    | _, _ => false) && sameMd l m
  | _, _ => false
theorem sameMd_ok : ∀ {l m : List Md}, sameMd l m = true → l = m
  | [], [], _ => rfl
  | a :: l, b :: m, h => by
    simp only [sameMd, Bool.and_eq_true] at h
    rw [sameMd_ok h.2]
    cases a <;> cases b <;> first | rfl | simp at h
  | [], _ :: _, h => by simp [sameMd] at h
  | _ :: _, [], h => by simp [sameMd] at h
def newNames : List Nat → Bool
  | [] => true
  | g :: gs => !gs.contains g && newNames gs
theorem newNames_ok : ∀ {gs : List Nat}, newNames gs = true → gs.Nodup
  | [], _ => .nil
  | g :: gs, h => by
    simp only [newNames, Bool.and_eq_true, Bool.not_eq_true'] at h
    exact List.nodup_cons.2 ⟨by simpa using h.1, newNames_ok h.2⟩
def isLive (r : Nat → Option TX) : List Nat → Bool
  | [] => true
  | g :: gs => match r g with
    | some _ => isLive r gs
    | none => false
theorem isLive_ok {r : Nat → Option TX} : ∀ {gs : List Nat}, isLive r gs = true → (gs.all fun g => (rX r g).isSome) = true
  | [], _ => rfl
  | g :: gs, h => by
    simp only [isLive] at h
    split at h
    · rename_i x hx
      simp only [List.all_cons, rX, hx, Option.map_some, Option.isSome_some, Bool.true_and]
      exact isLive_ok h
    · cases h
/-- What is behind a call to which places went over. -/
def backK (S : TS) (o : Oper) (r1 : Nat → Option TX) (lent : List Nat) (res : TX) (news : List (Nat × TX)) (b : Option (List Nat × List TX × List (Nat × TX))) (k : TS → Option ρ) : Option ρ :=
  match b with
  | some (tops, ys, ns) => match freezeTL (dropIfT S fun g => gaveT S.r r1 g && !tops.contains g) lent with
    | some S1 => forceN (news ++ ns) fun news => match addRT nlim S1.r news with
      | some r2 => if newNames tops && isLive S1.r tops then forceTL ys fun ys => (match setTopsT r2 tops ys with
        | some (c, r3) => cond c (forceT res fun x => k (putT { S1 with r := r3 } o.dst x)) none
        | none => none) else none
      | none => none
    | none => none
  | none => none
def callEffK (env : Env) (an : FuncId → An) (S : TS) (o : Oper) (f : FuncId) (args : List TX) (k : TS → Option ρ) : Option ρ :=
  match env f with
  | some inf => if sameMd (mdL inf.ps) (an f).md && ((an f).hold || (inf.rs.flat && (osOf inf.ps).all RSh.flat)) then (match moveT inf.ps S.r args with
    | some (c1, m, r1) => match lendT r1 inf.ps m with
      | some (c2, a) => cond (c1 && c2) (Option.bind (inf.G a) fun p => askR inf.rs (pairD.fst (osOf inf.ps) p) fun v =>
          backK S o r1 (if (an f).hold then trefsL (rdTL inf.ps args) else []) (impR (fun j => 4096 * (j + 1) + dstOf o) inf.rs v 0).1 (impR (fun j => 4096 * (j + 1) + dstOf o) inf.rs v 0).2.1
            (backT (fun j => 4096 * (j + 1) + dstOf o) inf.ps args (pairD.snd (osOf inf.ps) p) (impR (fun j => 4096 * (j + 1) + dstOf o) inf.rs v 0).2.2) k) none
      | none => none
    | none => none) else none
  | none => none
def stepK (T : TT) (Y : Nat → Option Ty) (env : Env) (an : FuncId → An) (draw : Bool) (ops : Array Oper) (l : List Oper) (S : TS) (o : Oper) (k : TS → Option ρ) : Option ρ :=
  if draw && !chkST an ops l S o then none else
  if isEff an o.op then (match effCall o.op with
    | some (f, args) => callEffK env an S o f (args.map S.ev) k
    | none => match effT T Y S (dstOf o) o.op (o.op.operands.toList.map S.ev) with
      | some (c, x, S') => cond c (forceG S' (placeOf (dstOf o) (o.op.operands.toList.map S.ev)) fun S' => k (putT S' o.dst x)) none
      | none => none)
  else match o.op with
  | .pick c x y => match S.ev c with
    | .b v => cond v (k (putT (refineT S c true) o.dst (S.ev x))) (k (putT (refineT S c false) o.dst (S.ev y)))
    | _ => none
  | .call c => match c.callee with
    | .value (.func f) => callK T env an draw S o f (c.args.toList.map S.ev) k
    | .value (.tmp t) => match S.ev (.tmp t) with
      | .fn f cap => callK T env an draw S o f (c.args.toList.map S.ev ++ cap) k
      | _ => none
    | _ => contK draw T S o (opqT T Y S.r (dstOf o) o.op (o.op.operands.toList.map S.ev)) k
  | _ => contK draw T S o (opqT T Y S.r (dstOf o) o.op (o.op.operands.toList.map S.ev)) k
theorem bind_some {α β : Type} {q : Option α} {f : α → Option β} {b : β} (h : Option.bind q f = some b) : ∃ a, q = some a ∧ f a = some b := by
  cases q with
  | none => cases h
  | some a => exact ⟨a, rfl, h⟩
theorem cond_some {c : Bool} {a : Option ρ} {x : ρ} (h : cond c a none = some x) : c = true ∧ a = some x := by
  cases c with
  | false => cases h
  | true => exact ⟨rfl, h⟩
theorem upd_self {α : Type} (t : Nat → α) (d : Nat) (x : α) (h : t d = x) : upd t d x = t := by
  funext v; simp only [upd]; split
  · rename_i e; rw [e, h]
  · rfl
theorem refineT_eq {S : TS} {c : Operand} {v : Bool} (h : S.ev c = .b v) : refineT S c v = S := by
  cases c with
  | tmp t =>
    simp only [refineT]
    simp only [TS.ev] at h
    rw [upd_self _ _ _ h]
  | _ => rfl
/-- What a step of a drawn region is. -/
def DrawnOk (T : TT) (call : FuncId → List X → Option (X × List X)) (an : FuncId → An) (ops : Array Oper) (l : List Oper) (S : TS) (o : Oper) (S' : TS) : Prop :=
  chkS an ops l S.x o = true ∧ (isEff an o.op = false → ∃ x news r', opq T call an S.x.r (dstOf o) o.op (o.op.operands.toList.map S.x.ev) = some (x, news, []) ∧ (mkR T o || news.isEmpty) = true ∧ addR nlim S.x.r news = some r' ∧ S'.x = put { S.x with r := r' } o.dst x)
theorem contK_ok {T : TT} {call : FuncId → List X → Option (X × List X)} {an : FuncId → An} {draw : Bool} {ops : Array Oper} {l : List Oper} {S : TS} {o : Oper} {q : QT} {k : TS → Option ρ} {x : ρ} (h : contK draw T S o q k = some x) (he : isEff an o.op = false)
    (hq : ∀ z news fl, q = some (true, z, news, fl) → opq T call an S.x.r (dstOf o) o.op (o.op.operands.toList.map S.x.ev) = some (z.x, newsX news, fl)) (hd : draw = true → chkS an ops l S.x o = true) :
    ∃ S', opStep T call an S.x o = some S'.x ∧ k S' = some x ∧ (draw = true → DrawnOk T call an ops l S o S') := by
  unfold contK at h
  split at h
  · rename_i c z news fl
    split at h
    · cases h
    · rename_i hdr
      split at h
      · rename_i S1 h1
        rw [forceN_eq] at h
        split at h
        · rename_i r' h2
          obtain ⟨rfl, h3⟩ := cond_some h
          rw [forceT_eq] at h3
          have hq' := hq z news fl rfl
          have ha : addR nlim S1.x.r (newsX news) = some (rX r') := addRT_ok h2
          refine ⟨_, ?_, h3, fun hd' => ⟨hd hd', fun _ => ?_⟩⟩
          · simp only [opStep, he, Bool.false_eq_true, if_false, hq', freezeTL_ok h1, ha, putT_ok]
            rfl
          · subst hd'
            simp only [Bool.true_and, Bool.not_eq_true', Bool.not_eq_false, Bool.and_eq_true, List.isEmpty_iff] at hdr
            obtain ⟨rfl, hm⟩ := hdr
            simp only [freezeTL, Option.some.injEq] at h1
            subst h1
            refine ⟨_, _, _, hq', ?_, ha, ?_⟩
            · cases news
              · simp [newsX]
              · simp only [List.isEmpty_cons, Bool.or_false] at hm
                simp [hm]
            · rw [putT_ok]; rfl
        · cases h
      · cases h
  · cases h
theorem txL_append : ∀ l m : List TX, txL (l ++ m) = txL l ++ txL m
  | [], m => rfl
  | x :: l, m => by simp only [List.cons_append, txL, txL_append l m]
theorem callK_ok {T : TT} {env : Env} {an : FuncId → An} {draw : Bool} {ops : Array Oper} {l : List Oper} {S : TS} {o : Oper} {f : FuncId} {args : List TX} {k : TS → Option ρ} {x : ρ} (h : callK T env an draw S o f args k = some x) (he' : isEff an o.op = false) (hck' : draw = true → chkS an ops l S.x o = true)
    (hopq : ∀ q, callX (callE env) an S.x.r (dstOf o) f (txL args) = some q → opq T (callE env) an S.x.r (dstOf o) o.op (o.op.operands.toList.map S.x.ev) = some q) :
    ∃ S', opStep T (callE env) an S.x o = some S'.x ∧ k S' = some x ∧ (draw = true → DrawnOk T (callE env) an ops l S o S') := by
  unfold callK at h
  split at h
  · rename_i hmd
    split at h
    · rename_i ts hts
      split at h
      · rename_i inf hf
        split at h
        · rename_i cc a ha
          split at h
          · rename_i hfl
            obtain ⟨rfl, h⟩ := cond_some h
            obtain ⟨v, hv, h⟩ := bind_some h
            rw [askR_eq] at h
            refine contK_ok h he' (fun z news fl hq => ?_) hck'
            simp only [Option.some.injEq, Prod.mk.injEq, true_and] at hq
            obtain ⟨rfl, rfl, rfl⟩ := hq
            have hce := callE_eq hf (unP_ok ha) hv
            have hfr : frzL S.x.r (txL args) = some (txL ts) := frzTL_ok hts
            refine hopq _ ?_
            simp only [callX, hmd, if_true, hfr, hce, impR_ok]
            congr 3
            rw [refsL_x]
            cases hh : (an f).hold with
            | true => simp
            | false =>
              rw [hh] at hfl
              simp only [Bool.false_or] at hfl
              simp [embR_flat _ _ hfl]
          · cases h
        · cases h
      · cases h
    · cases h
  · cases h
theorem backK_ok {S : TS} {o : Oper} {r1 : Nat → Option TX} {lent : List Nat} {res : TX} {news : List (Nat × TX)} {b : Option (List Nat × List TX × List (Nat × TX))} {k : TS → Option ρ} {x : ρ} (h : backK S o r1 lent res news b k = some x) :
    ∃ (tops : List Nat) (ys : List TX) (ns : List (Nat × TX)) (S1 : TS) (r2 r3 : Nat → Option TX), b = some (tops, ys, ns) ∧ freezeL (dropIf S.x fun g => gaveN (rX S.r) (rX r1) g && !tops.contains g) lent = some S1.x ∧ addR nlim S1.x.r (newsX news ++ newsX ns) = some (rX r2) ∧ tops.Nodup ∧ (tops.all fun g => (S1.x.r g).isSome) = true ∧ setTops (rX r2) tops (txL ys) = some (rX r3) ∧ k (putT { S1 with r := r3 } o.dst res) = some x := by
  unfold backK at h
  split at h
  · rename_i tops ys ns
    split at h
    · rename_i S1 h1
      rw [forceN_eq] at h
      split at h
      · rename_i r2 h2
        split at h
        · rename_i hh
          simp only [Bool.and_eq_true] at hh
          rw [forceTL_eq] at h
          split at h
          · rename_i c r3 h3
            obtain ⟨rfl, h4⟩ := cond_some h
            rw [forceT_eq] at h4
            refine ⟨tops, ys, ns, S1, r2, r3, rfl, ?_, ?_, newNames_ok hh.1, isLive_ok hh.2, setTopsT_ok h3, h4⟩
            · have := freezeTL_ok h1
              rw [← dropIfT_ok] at this
              have e : (fun g => gaveN (rX S.r) (rX r1) g && !tops.contains g) = fun g => gaveT S.r r1 g && !tops.contains g := by funext g; rw [gaveT_ok]
              rw [e]; exact this
            · rw [← newsX_append]; exact addRT_ok h2
          · cases h
        · cases h
      · cases h
    · cases h
  · cases h
theorem callEffK_ok {T : TT} {env : Env} {an : FuncId → An} {S : TS} {o : Oper} {f : FuncId} {args : List TX} {k : TS → Option ρ} {x : ρ} (h : callEffK env an S o f args k = some x) :
    ∃ z S', callEff (callE env) (an f) S.x (dstOf o) f (txL args) = some (TX.x z, TS.x S') ∧ k (putT S' o.dst z) = some x := by
  unfold callEffK at h
  split at h
  · rename_i inf hf
    split at h
    · rename_i hmd
      simp only [Bool.and_eq_true] at hmd
      obtain ⟨hmd, hfl⟩ := hmd
      have hmd := sameMd_ok hmd
      split at h
      · rename_i c1 m r1 hmv
        split at h
        · rename_i c2 a hl
          obtain ⟨hc, h⟩ := cond_some h
          simp only [Bool.and_eq_true] at hc
          obtain ⟨rfl, rfl⟩ := hc
          obtain ⟨p, hp, h⟩ := bind_some h
          rw [askR_eq] at h
          obtain ⟨tops, ys, ns, S1, r2, r3, hb, h1, h2, h3, h4, h5, h6⟩ := backK_ok h
          obtain ⟨zs, g1, g2⟩ := moveT_ok hmv
          obtain ⟨ts, g3, g4⟩ := g2 r1 a hl
          have hce := callE_eq hf g4 hp
          obtain ⟨cs, b1, b2, b3, b4⟩ := backT_ok hb
          refine ⟨_, { S1 with r := r3 }, ?_, h6⟩
          unfold callEff
          rw [← hmd]
          have g1' : giveL (mdL inf.ps) S.x.r (txL args) = some (zs, rX r1) := g1
          simp only [g1', g3, hce, b1]
          have hlent : (if (!(an f).hold && (embR inf.rs (pairD.fst (osOf inf.ps) p)).flat && flatL cs) = true then [] else refsL (rdL (mdL inf.ps) (txL args))) = (if (an f).hold = true then trefsL (rdTL inf.ps args) else []) := by
            rw [rdTL_ok, refsL_x]
            cases hh : (an f).hold with
            | true => simp
            | false =>
              rw [hh] at hfl
              simp only [Bool.false_or, Bool.and_eq_true] at hfl
              simp [embR_flat _ _ hfl.1, b4 hfl.2]
          rw [hlent]
          have h1' : freezeL (dropIf S.x fun g => gaveN S.x.r (rX r1) g && !tops.contains g) (if (an f).hold = true then trefsL (rdTL inf.ps args) else []) = some S1.x := h1
          simp only [h1', impR_ok, b2, b3, h2]
          rw [if_neg (by simp only [h3, decide_true, Bool.true_and, h4]; simp)]
          simp only [h5]
          rfl
        · cases h
      · cases h
    · cases h
  · cases h
theorem stepK_ok {T : TT} {Y : Nat → Option Ty} {env : Env} {an : FuncId → An} {draw : Bool} {ops : Array Oper} {l : List Oper} {S : TS} {o : Oper} {k : TS → Option ρ} {x : ρ} (h : stepK T Y env an draw ops l S o k = some x) :
    ∃ S', opStep T (callE env) an S.x o = some S'.x ∧ k S' = some x ∧ (draw = true → DrawnOk T (callE env) an ops l S o S') := by
  unfold stepK at h
  split at h
  · cases h
  · rename_i hck
    have hck' : draw = true → chkS an ops l S.x o = true := by
      intro hd
      subst hd
      simp only [Bool.true_and, Bool.not_eq_true', Bool.not_eq_false] at hck
      exact chkST_ok hck
    split at h
    · rename_i he
      split at h
      · rename_i f args hec
        obtain ⟨z, S', h1, h2⟩ := callEffK_ok (T := T) h
        refine ⟨_, ?_, h2, fun hd => ⟨hck' hd, fun hne => by rw [he] at hne; cases hne⟩⟩
        rw [map_ev] at h1
        have heff : eff T (callE env) an S.x (dstOf o) o.op (o.op.operands.toList.map S.x.ev) = some (z.x, S'.x) := by
          unfold effCall at hec
          split at hec
          · rename_i c hop
            split at hec
            · rename_i g hcal
              simp only [Option.some.injEq, Prod.mk.injEq] at hec
              obtain ⟨rfl, rfl⟩ := hec
              have hco : o.op.operands.toList = .func g :: c.args.toList := by rw [hop]; simp [Op.operands, Call.operands, hcal]
              rw [hco, hop]
              simp only [eff, hcal, List.map_cons, List.tail_cons]
              exact h1
            · cases hec
          · cases hec
        simp only [opStep, he, if_true, heff, putT_ok]
      · split at h
        · rename_i c z S' hx
          obtain ⟨rfl, h3⟩ := cond_some h
          rw [forceG_eq] at h3
          refine ⟨_, ?_, h3, fun hd => ⟨hck' hd, fun hne => by rw [he] at hne; cases hne⟩⟩
          have := effT_ok (call := callE env) (an := an) hx
          rw [map_ev] at this
          simp only [opStep, he, if_true, this, putT_ok]
        · cases h
    · rename_i he
      have he' : isEff an o.op = false := by simpa using he
      have plain : contK draw T S o (opqT T Y S.r (dstOf o) o.op (o.op.operands.toList.map S.ev)) k = some x → ∃ S', opStep T (callE env) an S.x o = some S'.x ∧ k S' = some x ∧ (draw = true → DrawnOk T (callE env) an ops l S o S') := by
        intro h
        refine contK_ok h he' (fun z news fl hq => ?_) hck'
        have := opqT_ok (call := callE env) (an := an) hq
        rw [map_ev] at this
        exact this
      split at h
      · rename_i c y z hop
        split at h
        · rename_i v hv
          have hv' : S.x.ev c = .b v := by rw [← ev_x, hv]; rfl
          have hopq : opq T (callE env) an S.x.r (dstOf o) o.op (o.op.operands.toList.map S.x.ev) = some (((if v then S.ev y else S.ev z) : TX).x, [], []) := by
            rw [hop]
            simp only [Op.operands, List.map_cons, List.map_nil, opq, x3, hv', pickX, q1]
            cases v <;> simp [ev_x]
          have hk : k (putT S o.dst (if v then S.ev y else S.ev z)) = some x := by
            cases v with
            | true => rw [refineT_eq hv] at h; exact h
            | false => rw [refineT_eq hv] at h; exact h
          refine ⟨_, ?_, hk, fun hd => ⟨hck' hd, fun _ => ⟨_, _, _, hopq, by simp, rfl, ?_⟩⟩⟩
          · simp only [opStep, he', Bool.false_eq_true, if_false, hopq, freezeL, addR, putT_ok]
          · rw [putT_ok]
        · cases h
      · rename_i c hop
        split at h
        · rename_i f hcal
          refine callK_ok h he' hck' fun q hq => ?_
          have hco : o.op.operands.toList = .func f :: c.args.toList := by rw [hop]; simp [Op.operands, Call.operands, hcal]
          rw [hco, hop]
          simp only [opq, hcal, List.map_cons, List.tail_cons]
          rw [map_ev] at hq
          exact hq
        · rename_i t hcal
          split at h
          · rename_i f cap hS
            refine callK_ok h he' hck' fun q hq => ?_
            have hco : o.op.operands.toList = .tmp t :: c.args.toList := by rw [hop]; simp [Op.operands, Call.operands, hcal]
            have hS' : S.x.ev (.tmp t) = .fn f (txL cap) := by rw [← ev_x, hS]; rfl
            rw [hco, hop]
            simp only [opq, hcal, List.map_cons, hS']
            rw [txL_append, map_ev] at hq
            exact hq
          · cases h
        · exact plain h
      · exact plain h
def guardK (T : TT) (Y : Nat → Option Ty) (env : Env) (an : FuncId → An) (draw : Bool) (ops : Array Oper) (l : List Oper) (S : TS) (d : Nat) (b want : Bool) (o : Oper) (next : TS → Option ρ) : Option ρ :=
  if b = want then stepK T Y env an draw ops l { S with t := upd S.t d (.b b) } o next else next (putT { S with t := upd S.t d (.b b) } o.dst (.tup []))
def runK (T : TT) (Y : Nat → Option Ty) (env : Env) (an : FuncId → An) (draw : Bool) (ops : Array Oper) : List Oper → TS → (TS → Option ρ) → Option ρ
  | [], S, k => k S
  | o :: l, S, k => match o.guard with
    | none => stepK T Y env an draw ops l S o fun S' => runK T Y env an draw ops l S' k
    | some (j, want) => match (ops[j]?).bind (·.dst) with
      | some d => match S.t d with
        | .b v => cond v (guardK T Y env an draw ops l S d true want o fun S' => runK T Y env an draw ops l S' k) (guardK T Y env an draw ops l S d false want o fun S' => runK T Y env an draw ops l S' k)
        | .tup [] => runK T Y env an draw ops l (putT S o.dst (.tup [])) k
        | _ => none
      | none => none
def runX (draw : Bool) (T : TT) (call : FuncId → List X → Option (X × List X)) (an : FuncId → An) (ops : Array Oper) (l : List Oper) (S : St) : Option St := if draw then runD T call an ops l S else runOps T call an ops l S
theorem runX_step {T : TT} {call : FuncId → List X → Option (X × List X)} {an : FuncId → An} {draw : Bool} {ops : Array Oper} {S S' : TS} {o : Oper} {l : List Oper} {R : St} (hw : wantedX ops S.x o = some true) (h1 : opStep T call an S.x o = some S'.x) (h2 : draw = true → DrawnOk T call an ops l S o S') (h3 : runX draw T call an ops l S'.x = some R) : runX draw T call an ops (o :: l) S.x = some R := by
  cases draw with
  | false =>
    simp only [runX, Bool.false_eq_true, if_false] at h3 ⊢
    simp only [runOps, hw, h1, h3]
  | true =>
    obtain ⟨hc, hq⟩ := h2 rfl
    simp only [runX, if_true] at h3 ⊢
    simp only [runD, hc, if_true]
    have : stepD T call an ops S.x o = some S'.x := by
      unfold stepD
      cases he : isEff an o.op with
      | true => simp only [if_true, hw, h1]
      | false =>
        obtain ⟨x, news, r', e1, e2, e3, e4⟩ := hq he
        simp only [Bool.false_eq_true, if_false, qD, hw, e1, e2, if_true, e3, e4]
    simp only [this, h3]
theorem runX_skip {T : TT} {call : FuncId → List X → Option (X × List X)} {an : FuncId → An} {draw : Bool} {ops : Array Oper} {S : TS} {o : Oper} {l : List Oper} {R : St} (hw : wantedX ops S.x o = some false) (h3 : runX draw T call an ops l (putT S o.dst (.tup [])).x = some R) : runX draw T call an ops (o :: l) S.x = some R := by
  rw [putT_ok] at h3
  cases draw with
  | false =>
    simp only [runX, Bool.false_eq_true, if_false] at h3 ⊢
    simp only [runOps, hw]
    exact h3
  | true =>
    simp only [runX, if_true] at h3 ⊢
    have hc : chkS an ops l S.x o = true := by
      unfold chkS
      split <;> first | rfl | (simp only [hw]; done) | (split <;> first | rfl | (simp only [hw]; done) | (simp only [hw]; split <;> rfl))
    simp only [runD, hc, if_true]
    have : stepD T call an ops S.x o = some (put S.x o.dst (.tup [])) := by
      unfold stepD
      cases he : isEff an o.op with
      | true => simp only [if_true, hw]
      | false => simp only [Bool.false_eq_true, if_false, qD, hw, addR]
    simp only [this]
    exact h3
theorem runK_ok {T : TT} {Y : Nat → Option Ty} {env : Env} {an : FuncId → An} {draw : Bool} {ops : Array Oper} : ∀ {l : List Oper} {S : TS} {k : TS → Option ρ} {x : ρ}, runK T Y env an draw ops l S k = some x →
    ∃ S', runX draw T (callE env) an ops l S.x = some S'.x ∧ k S' = some x
  | [], S, k, x, h => ⟨S, by cases draw <;> rfl, h⟩
  | o :: l, S, k, x, h => by
    simp only [runK] at h
    split at h
    · rename_i hg
      obtain ⟨S1, h1, h2, h3⟩ := stepK_ok h
      obtain ⟨S2, h4, h5⟩ := runK_ok h2
      exact ⟨S2, runX_step (by simp [wantedX, hg]) h1 h3 h4, h5⟩
    · rename_i j want hg
      split at h
      · rename_i d hd
        split at h
        · rename_i v hv
          have key : ∀ b, b = v → guardK T Y env an draw ops l S d b want o (fun S' => runK T Y env an draw ops l S' k) = some x → ∃ S', runX draw T (callE env) an ops (o :: l) S.x = some S'.x ∧ k S' = some x := by
            rintro b rfl hgk
            unfold guardK at hgk
            have hu : ({ S with t := upd S.t d (.b b) } : TS) = S := by rw [upd_self _ _ _ hv]
            rw [hu] at hgk
            have hw : wantedX ops S.x o = some (b == want) := by
              simp only [wantedX, hg, hd]
              have : S.x.t d = .b b := by simp [TS.x, hv, TX.x]
              simp only [this]
            split at hgk
            · rename_i hbw
              obtain ⟨S1, h1, h2, h3⟩ := stepK_ok hgk
              obtain ⟨S2, h4, h5⟩ := runK_ok h2
              exact ⟨S2, runX_step (by rw [hw]; simp [hbw]) h1 h3 h4, h5⟩
            · rename_i hbw
              obtain ⟨S2, h4, h5⟩ := runK_ok hgk
              exact ⟨S2, runX_skip (by rw [hw]; simpa using hbw) h4, h5⟩
          cases v with
          | true => exact key true rfl h
          | false => exact key false rfl h
        · rename_i hv
          obtain ⟨S2, h4, h5⟩ := runK_ok h
          have hw : wantedX ops S.x o = some false := by
            simp only [wantedX, hg, hd]
            have : S.x.t d = .tup [] := by simp [TS.x, hv, TX.x, txL]
            simp only [this]
          exact ⟨S2, runX_skip hw h4, h5⟩
        · cases h
      · cases h
end
end Go.EV
