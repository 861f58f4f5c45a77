/- Operations on typed values, one after the other; what comes behind is handed on. -/
import Derived.Test.YtehjeifbgegabaaTv6
set_option linter.unusedVariables false
set_option linter.unusedSimpArgs false
namespace Go.EV
open Go.RowKit
def t1 (xs : List TX) (f : TX → QT) : QT := match xs with | [x] => f x | _ => none
def t2 (xs : List TX) (f : TX → TX → QT) : QT := match xs with | [x, y] => f x y | _ => none
def tint (x : TX) (f : Int → QT) : QT := match x with | .i _ n => f n | _ => none
def qv (x : TX) : QT := some (true, x, [], [])
def nilT : TX → QT
  | .pt g ps => qv (.pt g ps)
  | .pf y => qv (.pf y)
  | _ => none
def extT (j : Nat) : TX → QT
  | .tup ys => match ys[j]? with
    | some y => qv y
    | none => none
  | _ => none
def allocT (T : TT) (Y : Nat → Option Ty) (dst e : Nat) : QT :=
  match T e with
  | some ti => if 0 < ti.size then (match zeroT T Y e with
    | some z => some (true, .pt dst [], [(dst, z)], [])
    | none => none) else none
  | none => none
def boxT (T : TT) (dst e : Nat) (x : TX) : QT :=
  match T e with
  | some ti => if 0 < ti.size ∧ x.isBot = false then some (fitsT ti x, .pt dst [], [(dst, x)], []) else none
  | none => none
def opqT (T : TT) (Y : Nat → Option Ty) (r : Nat → Option TX) (dst : Nat) (o : Op) (xs : List TX) : QT :=
  match o with
  | .move _ => t1 xs qv
  | .assign _ => t1 xs qv
  | .alloc e => allocT T Y dst e
  | .box e _ => t1 xs (boxT T dst e)
  | .build t ps => qt (buildT T Y t (ps.toList.map (·.1)) xs)
  | .buildSlice t n ps => buildSlT T Y r dst t n (ps.toList.map (·.1)) xs
  | .load t _ => t1 xs fun x => qt (ldVT T r t x)
  | .nilCheck _ => t1 xs nilT
  | .binOp op t _ _ _ => t2 xs fun x y => qt (binvT T op t x y)
  | .unOp op _ _ => t1 xs fun x => qt (unvT op x)
  | .convert src t _ => t1 xs (convT T r dst src t)
  | .makeSlice t _ _ => t2 xs fun l c => tint l fun l => tint c fun c => makeSlT T Y dst t l c
  | .slice t _ lo hi mx => sliceT T r t lo hi mx xs
  | .fieldAddr t _ f => t1 xs fun x => qt (fldAT T t f x)
  | .field t _ f => t1 xs fun x => qt (fldVT T t f x)
  | .indexAddr t _ _ => t2 xs fun x n => tint n fun n => qt (idxAT T r t x n)
  | .index t _ _ => t2 xs fun x n => tint n fun n => qt (idxVT T t x n)
  | .extract _ j => t1 xs (extT j)
  | .call c => match c.callee with
    | .builtin .len => t1 xs fun x => qt (lenVT T r (c.argTypes[0]?) x)
    | _ => none
  | _ => none
section
variable {T : TT} {Y : Nat → Option Ty} {call : FuncId → List X → Option (X × List X)} {an : FuncId → An} {r : Nat → Option TX} {dst : Nat} {z : TX} {news : List (Nat × TX)} {fl : List Nat}
theorem t1_ok {xs : List TX} {f : TX → QT} {g : X → Quiet} (h : t1 xs f = some (true, z, news, fl)) (hf : ∀ x, f x = some (true, z, news, fl) → g x.x = some (z.x, newsX news, fl)) : x1 (txL xs) g = some (z.x, newsX news, fl) := by
  unfold t1 at h
  split at h
  · simp only [txL, x1]; exact hf _ h
  · cases h
theorem t2_ok {xs : List TX} {f : TX → TX → QT} {g : X → X → Quiet} (h : t2 xs f = some (true, z, news, fl)) (hf : ∀ x y, f x y = some (true, z, news, fl) → g x.x y.x = some (z.x, newsX news, fl)) : x2 (txL xs) g = some (z.x, newsX news, fl) := by
  unfold t2 at h
  split at h
  · simp only [txL, x2]; exact hf _ _ h
  · cases h
theorem tint_ok {x : TX} {f : Int → QT} {g : Int → Quiet} (h : tint x f = some (true, z, news, fl)) (hf : ∀ n, f n = some (true, z, news, fl) → g n = some (z.x, newsX news, fl)) : intX x.x g = some (z.x, newsX news, fl) := by
  unfold tint at h
  split at h
  · simp only [TX.x, intX]; exact hf _ h
  · cases h
theorem qv_ok {x : TX} (h : qv x = some (true, z, news, fl)) : q1 (some x.x) = some (z.x, newsX news, fl) := by
  unfold qv at h; cases h; rfl
theorem qt_ok {q : CT} {p : Option X} (h : qt q = some (true, z, news, fl)) (hp : q = some (true, z) → p = some z.x) : q1 p = some (z.x, newsX news, fl) := by
  obtain ⟨h1, rfl, rfl⟩ := qt_some h
  rw [hp h1]; rfl
theorem opqT_ok {o : Op} {xs : List TX} (h : opqT T Y r dst o xs = some (true, z, news, fl)) : opq T call an (rX r) dst o (txL xs) = some (z.x, newsX news, fl) := by
  cases o <;> simp only [opqT, reduceCtorEq] at h <;> simp only [opq]
  case move => exact t1_ok h fun x hx => qv_ok hx
  case assign => exact t1_ok h fun x hx => qv_ok hx
  case alloc e =>
    unfold allocT at h
    split at h
    · rename_i ti ht
      split at h
      · rename_i hs
        split at h
        · rename_i y hy
          cases h
          obtain ⟨ti', ht', hz⟩ := zeroT_ok hy
          rw [ht] at ht'; cases ht'
          simp [ht, hs, TX.x, newsX, hz, offOf, keysOf]
        · cases h
      · cases h
    · cases h
  case box e y =>
    refine t1_ok h fun x hx => ?_
    unfold boxT at hx
    split at hx
    · rename_i ti ht
      split at hx
      · rename_i hs
        simp only [Option.some.injEq, Prod.mk.injEq] at hx
        obtain ⟨h1, rfl, rfl, rfl⟩ := hx
        simp [ht, fits_x, h1, bot_x, hs, TX.x, newsX, offOf, keysOf]
      · cases hx
    · cases hx
  case build => exact qt_ok h fun h => buildT_ok h
  case buildSlice => exact buildSlT_ok h
  case load => exact t1_ok h fun x hx => qt_ok hx fun h => ldVT_ok h
  case nilCheck =>
    refine t1_ok h fun x hx => ?_
    unfold nilT at hx
    split at hx
    · exact qv_ok hx
    · exact qv_ok hx
    · cases hx
  case binOp => exact t2_ok h fun x y hx => qt_ok hx fun h => binvT_ok h
  case unOp => exact t1_ok h fun x hx => qt_ok hx fun h => unvT_ok h
  case convert => exact t1_ok h fun x hx => convT_ok hx
  case makeSlice => exact t2_ok h fun x y hx => tint_ok hx fun n hx => tint_ok hx fun m hx => makeSlT_ok hx
  case slice => exact sliceT_ok h
  case fieldAddr => exact t1_ok h fun x hx => qt_ok hx fun h => fldAT_ok h
  case field => exact t1_ok h fun x hx => qt_ok hx fun h => fldVT_ok h
  case indexAddr => exact t2_ok h fun x y hx => tint_ok hx fun n hx => qt_ok hx fun h => idxAT_ok h
  case index => exact t2_ok h fun x y hx => tint_ok hx fun n hx => qt_ok hx fun h => idxVT_ok h
  case extract e j =>
    refine t1_ok h fun x hx => ?_
    unfold extT at hx
    split at hx
    · split at hx
      · rename_i ys y hy
        have := qv_ok hx
        simp only [TX.x, txL_get, hy, Option.map_some]
        exact this
      · cases hx
    · cases hx
  case call c =>
    split at h
    · rename_i hc
      simp only [hc]
      exact t1_ok h fun x hx => qt_ok hx fun h => lenVT_ok h
    · cases h
end
def effT (T : TT) (Y : Nat → Option Ty) (S : TS) (dst : Nat) (o : Op) (xs : List TX) : Option (Bool × TX × TS) :=
  match o with
  | .store t _ _ => match xs with
    | [p, v] => match storeT T S t p v with
      | some (c, S') => some (c, .bot, S')
      | none => none
    | _ => none
  | .call c => match c.callee with
    | .builtin .append => match xs with
      | [x, y] => appendT T Y S dst c.argTypes x y
      | _ => none
    | _ => none
  | _ => none
theorem effT_ok {T : TT} {Y : Nat → Option Ty} {S S' : TS} {dst : Nat} {o : Op} {xs : List TX} {z : TX} (h : effT T Y S dst o xs = some (true, z, S')) : eff T S.x dst o (txL xs) = some (z.x, S'.x) := by
  unfold effT at h
  split at h
  · split at h
    · split at h
      · rename_i hs
        simp only [Option.some.injEq, Prod.mk.injEq] at h
        obtain ⟨rfl, rfl, rfl⟩ := h
        simp only [eff, txL, storeT_ok hs, TX.x]
      · cases h
    · cases h
  · rename_i c
    split at h
    · rename_i hc
      split at h
      · simp only [eff, hc, txL, appendT_ok h]
      · cases h
    · cases h
  · cases h
/-- A store into a place that none of those that need not come first looks into. -/
def chkST (ops : Array Oper) (S : TS) (p : Oper) : Bool :=
  match p.op with
  | .store _ y z => match S.ev y with
    | .pt g ps => (match S.r g with
        | some c => (match navT c ps with
          | some _ => !ps.any PStep.isX || (S.ev z).refs.isEmpty
          | none => false)
        | none => false) && (List.range ops.size).all fun j => match ops[j]? with
          | some x => !readsR x.op || dirs p j || !((trefsL (x.op.operands.toList.map S.ev)).contains g)
          | none => true
    | _ => false
  | _ => true
theorem map_ev (S : TS) (l : List Operand) : txL (l.map S.ev) = l.map S.x.ev := by
  induction l with
  | nil => rfl
  | cons o l ih => simp only [List.map_cons, txL, ev_x, ih]
theorem chkST_ok {ops : Array Oper} {S : TS} {p : Oper} (h : chkST ops S p = true) : chkS ops S.x p = true := by
  unfold chkST at h
  unfold chkS
  split at h
  · rename_i t y z hop
    simp only [hop]
    split
    · split at h
      · rename_i g ps he
        have he' : S.x.ev y = .pt g (offOf ps) (keysOf ps) := by rw [← ev_x, he]; simp [TX.x]
        simp only [Bool.and_eq_true] at h
        obtain ⟨h1, h2⟩ := h
        simp only [he', Bool.and_eq_true]
        refine ⟨?_, ?_⟩
        · split at h1
          · rename_i c hg
            have hg' : S.x.r g = some c.x := by simp [TS.x, rX, hg]
            split at h1
            · rename_i q hn
              simp only [hg', inAr_ok hn, ← ev_x, refs_x]
              exact h1
            · cases h1
          · cases h1
        · refine List.all_eq_true.2 fun j hj => ?_
          have h3 := List.all_eq_true.1 h2 j hj
          cases hj' : ops[j]? with
          | none => rfl
          | some q =>
            rw [hj'] at h3
            simp only [← map_ev, refsL_x]
            exact h3
      · cases h
    · rfl
  · rename_i hop
    split
    · rename_i h2
      exact (hop _ _ _ h2).elim
    · rfl
section
variable {ρ : Type}
def refineT (S : TS) : Operand → Bool → TS
  | .tmp t, v => { S with t := upd S.t t (.b v) }
  | _, _ => S
/-! A value is computed before it is kept. -/
def forceP {R : Type} : List PStep → (List PStep → R) → R
  | [], k => k []
  | .f j o :: ps, k => forceP ps fun qs => k (.f j o :: qs)
  | .x i d :: ps, k => forceP ps fun qs => k (.x i d :: qs)
def forceB {R : Type} (b : Bool) (k : Bool → R) : R := match b with
  | true => k true
  | false => k false
mutual
def forceT {R : Type} : TX → (TX → R) → R
  | .ag xs, k => forceTL xs fun ys => k (.ag ys)
  | .tup xs, k => forceTL xs fun ys => k (.tup ys)
  | .pf x, k => forceT x fun y => k (.pf y)
  | .pt g ps, k => forceP ps fun qs => k (.pt g qs)
  | .sl f τ vs, k => forceB f fun f => k (.sl f τ vs)
  | .emp f, k => forceB f fun f => k (.emp f)
  | .hd g lo len f, k => forceB f fun f => k (.hd g lo len f)
  | .b v, k => k (.b v)
  | .i n v, k => k (.i n v)
  | .s l, k => k (.s l)
  | .ar d τ vs, k => k (.ar d τ vs)
  | .hw g, k => k (.hw g)
  | .np, k => k .np
  | .nm, k => k .nm
  | .nf, k => k .nf
  | .bot, k => k .bot
  | .fn f c, k => k (.fn f c)
def forceTL {R : Type} : List TX → (List TX → R) → R
  | [], k => k []
  | x :: xs, k => forceT x fun y => forceTL xs fun ys => k (y :: ys)
end
theorem forceP_eq {R : Type} : ∀ (ps : List PStep) (k : List PStep → R), forceP ps k = k ps
  | [], k => rfl
  | .f j o :: ps, k => by simp only [forceP]; rw [forceP_eq ps]
  | .x i d :: ps, k => by simp only [forceP]; rw [forceP_eq ps]
theorem forceB_eq {R : Type} (b : Bool) (k : Bool → R) : forceB b k = k b := by cases b <;> rfl
mutual
theorem forceT_eq {R : Type} : ∀ (x : TX) (k : TX → R), forceT x k = k x
  | .ag xs, k => by simp only [forceT]; rw [forceTL_eq xs]
  | .tup xs, k => by simp only [forceT]; rw [forceTL_eq xs]
  | .pf x, k => by simp only [forceT]; rw [forceT_eq x]
  | .pt g ps, k => by simp only [forceT, forceP_eq]
  | .sl f τ vs, k | .emp f, k | .hd g lo len f, k => by simp only [forceT, forceB_eq]
  | .b v, k | .i n v, k | .s l, k | .ar d τ vs, k | .hw g, k | .np, k | .nm, k | .nf, k | .bot, k | .fn f c, k => by simp only [forceT]
theorem forceTL_eq {R : Type} : ∀ (xs : List TX) (k : List TX → R), forceTL xs k = k xs
  | [], k => rfl
  | x :: xs, k => by simp only [forceTL]; rw [forceT_eq x, forceTL_eq xs]
end
def forceN {R : Type} : List (Nat × TX) → (List (Nat × TX) → R) → R
  | [], k => k []
  | (g, x) :: l, k => forceT x fun y => forceN l fun m => k ((g, y) :: m)
theorem forceN_eq {R : Type} : ∀ (l : List (Nat × TX)) (k : List (Nat × TX) → R), forceN l k = k l
  | [], k => rfl
  | (g, x) :: l, k => by simp only [forceN, forceT_eq, forceN_eq l]
def forceG {R : Type} (S : TS) (g : Nat) (k : TS → R) : R :=
  match S.r g with
  | some x => forceT x fun y => k { S with r := upd S.r g (some y) }
  | none => k S
theorem forceG_eq {R : Type} (S : TS) (g : Nat) (k : TS → R) : forceG S g k = k S := by
  unfold forceG
  split
  · rename_i x h
    rw [forceT_eq]
    have : upd S.r g (some x) = S.r := by
      funext v; simp only [upd]; split
      · rename_i e; rw [e, h]
      · rfl
    rw [this]
  · rfl
/-- The place that an effect writes. -/
def placeOf (dst : Nat) : List TX → Nat
  | .pt g _ :: _ => g
  | _ => dst
/-- What is named and kept, then what comes behind. -/
def contK (draw : Bool) (T : TT) (S : TS) (o : Oper) (q : QT) (k : TS → Option ρ) : Option ρ :=
  match q with
  | some (c, x, news, fl) => if draw && !(fl.isEmpty && (mkR T o || news.isEmpty)) then none else match freezeTL S fl with
    | some S1 => forceN news fun news => match addRT S1.r news with
      | some r' => cond c (forceT x fun x => k (putT { S1 with r := r' } o.dst x)) none
      | none => none
    | none => none
  | none => none
def callK (T : TT) (env : Env) (an : FuncId → An) (draw : Bool) (S : TS) (o : Oper) (f : FuncId) (args : List TX) (k : TS → Option ρ) : Option ρ :=
  if (an f).md.all (· == .rd) then (match frzTL S.r args with
    | some ts => match env f with
      | some inf => match unP inf.ps ts with
        | some (c, a) => if (an f).hold || inf.rs.flat then cond c (Option.bind (inf.G a) fun v =>
            contK draw T S o (some (true, (impR (fun j => 4096 * (j + 1) + dstOf o) inf.rs v 0).1, (impR (fun j => 4096 * (j + 1) + dstOf o) inf.rs v 0).2.1, if (an f).hold then trefsL args else [])) k) none else none
        | none => none
      | none => none
    | none => none) else none
def stepK (T : TT) (Y : Nat → Option Ty) (env : Env) (an : FuncId → An) (draw : Bool) (ops : Array Oper) (S : TS) (o : Oper) (k : TS → Option ρ) : Option ρ :=
  if draw && !chkST ops S o then none else
  if isEff an o.op then (match effT T Y S (dstOf o) o.op (o.op.operands.toList.map S.ev) with
    | some (c, x, S') => cond c (forceG S' (placeOf (dstOf o) (o.op.operands.toList.map S.ev)) fun S' => k (putT S' o.dst x)) none
    | none => none)
  else match o.op with
  | .pick c x y => match S.ev c with
    | .b v => cond v (k (putT (refineT S c true) o.dst (S.ev x))) (k (putT (refineT S c false) o.dst (S.ev y)))
    | _ => none
  | .call c => match c.callee with
    | .value (.func f) => callK T env an draw S o f (c.args.toList.map S.ev) k
    | _ => contK draw T S o (opqT T Y S.r (dstOf o) o.op (o.op.operands.toList.map S.ev)) k
  | _ => contK draw T S o (opqT T Y S.r (dstOf o) o.op (o.op.operands.toList.map S.ev)) k
theorem bind_some {α β : Type} {q : Option α} {f : α → Option β} {b : β} (h : Option.bind q f = some b) : ∃ a, q = some a ∧ f a = some b := by
  cases q with
  | none => cases h
  | some a => exact ⟨a, rfl, h⟩
theorem cond_some {c : Bool} {a : Option ρ} {x : ρ} (h : cond c a none = some x) : c = true ∧ a = some x := by
  cases c with
  | false => cases h
  | true => exact ⟨rfl, h⟩
theorem upd_self {α : Type} (t : Nat → α) (d : Nat) (x : α) (h : t d = x) : upd t d x = t := by
  funext v; simp only [upd]; split
  · rename_i e; rw [e, h]
  · rfl
theorem refineT_eq {S : TS} {c : Operand} {v : Bool} (h : S.ev c = .b v) : refineT S c v = S := by
  cases c with
  | tmp t =>
    simp only [refineT]
    simp only [TS.ev] at h
    rw [upd_self _ _ _ h]
  | _ => rfl
/-- What a step of a drawn region is. -/
def DrawnOk (T : TT) (call : FuncId → List X → Option (X × List X)) (an : FuncId → An) (ops : Array Oper) (S : TS) (o : Oper) (S' : TS) : Prop :=
  chkS ops S.x o = true ∧ (isEff an o.op = false → ∃ x news r', opq T call an S.x.r (dstOf o) o.op (o.op.operands.toList.map S.x.ev) = some (x, news, []) ∧ (mkR T o || news.isEmpty) = true ∧ addR S.x.r news = some r' ∧ S'.x = put { S.x with r := r' } o.dst x)
theorem contK_ok {T : TT} {call : FuncId → List X → Option (X × List X)} {an : FuncId → An} {draw : Bool} {ops : Array Oper} {S : TS} {o : Oper} {q : QT} {k : TS → Option ρ} {x : ρ} (h : contK draw T S o q k = some x) (he : isEff an o.op = false)
    (hq : ∀ z news fl, q = some (true, z, news, fl) → opq T call an S.x.r (dstOf o) o.op (o.op.operands.toList.map S.x.ev) = some (z.x, newsX news, fl)) (hd : draw = true → chkS ops S.x o = true) :
    ∃ S', opStep T call an S.x o = some S'.x ∧ k S' = some x ∧ (draw = true → DrawnOk T call an ops S o S') := by
  unfold contK at h
  split at h
  · rename_i c z news fl
    split at h
    · cases h
    · rename_i hdr
      split at h
      · rename_i S1 h1
        rw [forceN_eq] at h
        split at h
        · rename_i r' h2
          obtain ⟨rfl, h3⟩ := cond_some h
          rw [forceT_eq] at h3
          have hq' := hq z news fl rfl
          have ha : addR S1.x.r (newsX news) = some (rX r') := addRT_ok h2
          refine ⟨_, ?_, h3, fun hd' => ⟨hd hd', fun _ => ?_⟩⟩
          · simp only [opStep, he, Bool.false_eq_true, if_false, hq', freezeTL_ok h1, ha, putT_ok]
            rfl
          · subst hd'
            simp only [Bool.true_and, Bool.not_eq_true', Bool.not_eq_false, Bool.and_eq_true, List.isEmpty_iff] at hdr
            obtain ⟨rfl, hm⟩ := hdr
            simp only [freezeTL, Option.some.injEq] at h1
            subst h1
            refine ⟨_, _, _, hq', ?_, ha, ?_⟩
            · cases news
              · simp [newsX]
              · simp only [List.isEmpty_cons, Bool.or_false] at hm
                simp [hm]
            · rw [putT_ok]; rfl
        · cases h
      · cases h
  · cases h
theorem stepK_ok {T : TT} {Y : Nat → Option Ty} {env : Env} {an : FuncId → An} {draw : Bool} {ops : Array Oper} {S : TS} {o : Oper} {k : TS → Option ρ} {x : ρ} (h : stepK T Y env an draw ops S o k = some x) :
    ∃ S', opStep T (callE env) an S.x o = some S'.x ∧ k S' = some x ∧ (draw = true → DrawnOk T (callE env) an ops S o S') := by
  unfold stepK at h
  split at h
  · cases h
  · rename_i hck
    have hck' : draw = true → chkS ops S.x o = true := by
      intro hd
      subst hd
      simp only [Bool.true_and, Bool.not_eq_true', Bool.not_eq_false] at hck
      exact chkST_ok hck
    split at h
    · rename_i he
      split at h
      · rename_i c z S' hx
        obtain ⟨rfl, h3⟩ := cond_some h
        rw [forceG_eq] at h3
        refine ⟨_, ?_, h3, fun hd => ⟨hck' hd, fun hne => by rw [he] at hne; cases hne⟩⟩
        have := effT_ok hx
        rw [map_ev] at this
        simp only [opStep, he, if_true, this, putT_ok]
      · cases h
    · rename_i he
      have he' : isEff an o.op = false := by simpa using he
      have plain : contK draw T S o (opqT T Y S.r (dstOf o) o.op (o.op.operands.toList.map S.ev)) k = some x → ∃ S', opStep T (callE env) an S.x o = some S'.x ∧ k S' = some x ∧ (draw = true → DrawnOk T (callE env) an ops S o S') := by
        intro h
        refine contK_ok h he' (fun z news fl hq => ?_) hck'
        have := opqT_ok (call := callE env) (an := an) hq
        rw [map_ev] at this
        exact this
      split at h
      · rename_i c y z hop
        split at h
        · rename_i v hv
          have hv' : S.x.ev c = .b v := by rw [← ev_x, hv]; rfl
          have hopq : opq T (callE env) an S.x.r (dstOf o) o.op (o.op.operands.toList.map S.x.ev) = some (((if v then S.ev y else S.ev z) : TX).x, [], []) := by
            rw [hop]
            simp only [Op.operands, List.map_cons, List.map_nil, opq, x3, hv', pickX, q1]
            cases v <;> simp [ev_x]
          have hk : k (putT S o.dst (if v then S.ev y else S.ev z)) = some x := by
            cases v with
            | true => rw [refineT_eq hv] at h; exact h
            | false => rw [refineT_eq hv] at h; exact h
          refine ⟨_, ?_, hk, fun hd => ⟨hck' hd, fun _ => ⟨_, _, _, hopq, by simp, rfl, ?_⟩⟩⟩
          · simp only [opStep, he', Bool.false_eq_true, if_false, hopq, freezeL, addR, putT_ok]
          · rw [putT_ok]
        · cases h
      · rename_i c hop
        split at h
        · rename_i f hcal
          unfold callK at h
          split at h
          · rename_i hmd
            split at h
            · rename_i ts hts
              split at h
              · rename_i inf hf
                split at h
                · rename_i cc a ha
                  split at h
                  · rename_i hfl
                    obtain ⟨rfl, h⟩ := cond_some h
                    obtain ⟨v, hv, h⟩ := bind_some h
                    refine contK_ok h he' (fun z news fl hq => ?_) hck'
                    simp only [Option.some.injEq, Prod.mk.injEq, true_and] at hq
                    obtain ⟨rfl, rfl, rfl⟩ := hq
                    have hco : o.op.operands.toList = .func f :: c.args.toList := by rw [hop]; simp [Op.operands, Call.operands, hcal]
                    have hce := callE_eq hf (unP_ok ha) hv
                    have hfr : frzL S.x.r (c.args.toList.map S.x.ev) = some (txL ts) := by rw [← map_ev]; exact frzTL_ok hts
                    rw [hco, hop]
                    simp only [opq, hcal, List.map_cons, List.tail_cons, callX, hmd, if_true, hfr, hce, impR_ok]
                    congr 3
                    rw [← map_ev, refsL_x]
                    cases hh : (an f).hold with
                    | true => simp
                    | false =>
                      rw [hh] at hfl
                      simp only [Bool.false_or] at hfl
                      simp [embR_flat _ _ hfl]
                  · cases h
                · cases h
              · cases h
            · cases h
          · cases h
        · exact plain h
      · exact plain h
def guardK (T : TT) (Y : Nat → Option Ty) (env : Env) (an : FuncId → An) (draw : Bool) (ops : Array Oper) (S : TS) (d : Nat) (b want : Bool) (o : Oper) (next : TS → Option ρ) : Option ρ :=
  if b = want then stepK T Y env an draw ops { S with t := upd S.t d (.b b) } o next else next (putT { S with t := upd S.t d (.b b) } o.dst (.tup []))
def runK (T : TT) (Y : Nat → Option Ty) (env : Env) (an : FuncId → An) (draw : Bool) (ops : Array Oper) : List Oper → TS → (TS → Option ρ) → Option ρ
  | [], S, k => k S
  | o :: l, S, k => match o.guard with
    | none => stepK T Y env an draw ops S o fun S' => runK T Y env an draw ops l S' k
    | some (j, want) => match (ops[j]?).bind (·.dst) with
      | some d => match S.t d with
        | .b v => cond v (guardK T Y env an draw ops S d true want o fun S' => runK T Y env an draw ops l S' k) (guardK T Y env an draw ops S d false want o fun S' => runK T Y env an draw ops l S' k)
        | .tup [] => runK T Y env an draw ops l (putT S o.dst (.tup [])) k
        | _ => none
      | none => none
def runX (draw : Bool) (T : TT) (call : FuncId → List X → Option (X × List X)) (an : FuncId → An) (ops : Array Oper) (l : List Oper) (S : St) : Option St := if draw then runD T call an ops l S else runOps T call an ops l S
theorem runX_step {T : TT} {call : FuncId → List X → Option (X × List X)} {an : FuncId → An} {draw : Bool} {ops : Array Oper} {S S' : TS} {o : Oper} {l : List Oper} {R : St} (hw : wantedX ops S.x o = some true) (h1 : opStep T call an S.x o = some S'.x) (h2 : draw = true → DrawnOk T call an ops S o S') (h3 : runX draw T call an ops l S'.x = some R) : runX draw T call an ops (o :: l) S.x = some R := by
  cases draw with
  | false =>
    simp only [runX, Bool.false_eq_true, if_false] at h3 ⊢
    simp only [runOps, hw, h1, h3]
  | true =>
    obtain ⟨hc, hq⟩ := h2 rfl
    simp only [runX, if_true] at h3 ⊢
    simp only [runD, hc, if_true]
    have : stepD T call an ops S.x o = some S'.x := by
      unfold stepD
      cases he : isEff an o.op with
      | true => simp only [if_true, hw, h1]
      | false =>
        obtain ⟨x, news, r', e1, e2, e3, e4⟩ := hq he
        simp only [Bool.false_eq_true, if_false, qD, hw, e1, e2, if_true, e3, e4]
    simp only [this, h3]
theorem runX_skip {T : TT} {call : FuncId → List X → Option (X × List X)} {an : FuncId → An} {draw : Bool} {ops : Array Oper} {S : TS} {o : Oper} {l : List Oper} {R : St} (hw : wantedX ops S.x o = some false) (h3 : runX draw T call an ops l (putT S o.dst (.tup [])).x = some R) : runX draw T call an ops (o :: l) S.x = some R := by
  rw [putT_ok] at h3
  cases draw with
  | false =>
    simp only [runX, Bool.false_eq_true, if_false] at h3 ⊢
    simp only [runOps, hw]
    exact h3
  | true =>
    simp only [runX, if_true] at h3 ⊢
    have hc : chkS ops S.x o = true := by
      unfold chkS
      split
      · simp only [hw]
      · rfl
    simp only [runD, hc, if_true]
    have : stepD T call an ops S.x o = some (put S.x o.dst (.tup [])) := by
      unfold stepD
      cases he : isEff an o.op with
      | true => simp only [if_true, hw]
      | false => simp only [Bool.false_eq_true, if_false, qD, hw, addR]
    simp only [this]
    exact h3
theorem runK_ok {T : TT} {Y : Nat → Option Ty} {env : Env} {an : FuncId → An} {draw : Bool} {ops : Array Oper} : ∀ {l : List Oper} {S : TS} {k : TS → Option ρ} {x : ρ}, runK T Y env an draw ops l S k = some x →
    ∃ S', runX draw T (callE env) an ops l S.x = some S'.x ∧ k S' = some x
  | [], S, k, x, h => ⟨S, by cases draw <;> rfl, h⟩
  | o :: l, S, k, x, h => by
    simp only [runK] at h
    split at h
    · rename_i hg
      obtain ⟨S1, h1, h2, h3⟩ := stepK_ok h
      obtain ⟨S2, h4, h5⟩ := runK_ok h2
      exact ⟨S2, runX_step (by simp [wantedX, hg]) h1 h3 h4, h5⟩
    · rename_i j want hg
      split at h
      · rename_i d hd
        split at h
        · rename_i v hv
          have key : ∀ b, b = v → guardK T Y env an draw ops S d b want o (fun S' => runK T Y env an draw ops l S' k) = some x → ∃ S', runX draw T (callE env) an ops (o :: l) S.x = some S'.x ∧ k S' = some x := by
            rintro b rfl hgk
            unfold guardK at hgk
            have hu : ({ S with t := upd S.t d (.b b) } : TS) = S := by rw [upd_self _ _ _ hv]
            rw [hu] at hgk
            have hw : wantedX ops S.x o = some (b == want) := by
              simp only [wantedX, hg, hd]
              have : S.x.t d = .b b := by simp [TS.x, hv, TX.x]
              simp only [this]
            split at hgk
            · rename_i hbw
              obtain ⟨S1, h1, h2, h3⟩ := stepK_ok hgk
              obtain ⟨S2, h4, h5⟩ := runK_ok h2
              exact ⟨S2, runX_step (by rw [hw]; simp [hbw]) h1 h3 h4, h5⟩
            · rename_i hbw
              obtain ⟨S2, h4, h5⟩ := runK_ok hgk
              exact ⟨S2, runX_skip (by rw [hw]; simpa using hbw) h4, h5⟩
          cases v with
          | true => exact key true rfl h
          | false => exact key false rfl h
        · rename_i hv
          obtain ⟨S2, h4, h5⟩ := runK_ok h
          have hw : wantedX ops S.x o = some false := by
            simp only [wantedX, hg, hd]
            have : S.x.t d = .tup [] := by simp [TS.x, hv, TX.x, txL]
            simp only [this]
          exact ⟨S2, runX_skip hw h4, h5⟩
        · cases h
      · cases h
end
end Go.EV
