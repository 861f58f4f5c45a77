/- States by their shapes: what is known at a loop's head, behind it, of a result. -/
import Derived.Test.YtfadalgikdffeaaGreatTv7
set_option linter.unusedVariables false
set_option linter.unusedSimpArgs false
namespace Go.EV
open Go.RowKit
section
variable {w0 : World} {F0 F : Nat → Prop} {Pb : PB} {A : Nat → Option RA} {S : St} {tm : Nat → Value} {w : World}
mutual
theorem rc_wk : ∀ {x : X} {cs : List Value}, Rc w F A x cs → Rc w F A x.wk cs
  | .ag xs, cs, h => by simp only [Rc, X.wk] at h ⊢; exact rcL_wk h
  | .sl f xs, cs, h => by
    have h1 : Rf w F (.sl f xs) cs := by simpa only [Rc] using h
    have := rf_wk h1
    simp only [X.wk] at this ⊢
    simpa only [Rc] using this
  | .pf x, cs, h => by
    have h1 : Rf w F (.pf x) cs := by simpa only [Rc] using h
    have := rf_wk h1
    simp only [X.wk] at this ⊢
    simpa only [Rc] using this
  | .tup _, cs, h => by simp [Rc] at h
  | .ob _, cs, h => by simp [Rc] at h
  | .b v, cs, h | .i k n, cs, h | .s l, cs, h | .ar d xs, cs, h | .np, cs, h | .nm, cs, h | .nf, cs, h | .bot, cs, h | .hw _, cs, h | .hd _ _ _ _, cs, h | .pt _ _ _, cs, h | .fn _ _, cs, h | .ow _ _, cs, h => by simpa only [X.wk] using h
theorem rcL_wk : ∀ {xs : List X} {cs : List Value}, RcL w F A xs cs → RcL w F A (wkL xs) cs
  | [], cs, h => by simpa only [RcL, wkL] using h
  | x :: xs, cs, h => by
    simp only [RcL, wkL] at h ⊢
    obtain ⟨c1, c2, h1, h2, h3⟩ := h
    exact ⟨c1, c2, h1, rc_wk h2, rcL_wk h3⟩
end
theorem r1_wk {x : X} {v : Value} (h : R1 w F A x v) : R1 w F A x.wk v := by
  obtain ⟨cs, h1, h2⟩ := h
  exact ⟨cs, rc_wk h1, by rw [wk_val]; exact h2⟩
theorem rvL_wk : ∀ {xs : List X} {vs : List Value}, RvL w F A xs vs → RvL w F A (wkL xs) vs
  | [], [], h => by simp only [RvL, wkL]
  | [], _ :: _, h => by simp [RvL] at h
  | _ :: _, [], h => by simp [RvL] at h
  | x :: xs, v :: vs, h => by
    simp only [RvL, wkL] at h ⊢
    exact ⟨h.1.imp (fun e => by subst e; rfl) r1_wk, rvL_wk h.2⟩
theorem rv_wk {x : X} {v : Value} (h : Rv w F A x v) : Rv w F A x.wk v := by
  unfold Rv at h
  split at h
  · trivial
  · obtain ⟨vs, h1, h2⟩ := h
    exact ⟨vs, h1, rvL_wk h2⟩
  · exact (r1_wk h).rv
/-- Slots and places of which less is said. -/
def LeX (x y : X) : Prop := y = x ∨ y = x.wk ∨ y = .bot
theorem Inv.less (h : Inv w0 F0 Pb F A S tm w) {t' : Nat → X} {r' : Nat → Option X} (ht : ∀ v, LeX (S.t v) (t' v)) (hr : ∀ g, r' g = S.r g ∨ r' g = (S.r g).map X.wk) : Inv w0 F0 Pb F A { t := t', r := r' } tm w := by
  refine { h with tv := fun v => ?_, rv := fun g x hg => ?_, lv := fun g ra hA => ?_ }
  · rcases ht v with e | e | e
    · simp only [e]; exact h.tv v
    · simp only [e]; exact rv_wk (h.tv v)
    · simp only [e]; trivial
  · simp only at hg
    rcases hr g with e | e
    · rw [e] at hg; exact h.rv g x hg
    · rw [e] at hg
      obtain ⟨y, hy, rfl⟩ := Option.map_eq_some_iff.1 hg
      obtain ⟨ra, c, hA, hok⟩ := h.rv g y hy
      refine ⟨ra, c, hA, ⟨rc_wk hok.rc, hok.cap, dimOk_congr (wk_arD y) (wk_size y) hok.dim, hok.own⟩⟩
  · obtain ⟨x, hx⟩ := h.lv g ra hA
    rcases hr g with e | e
    · exact ⟨x, by simp only [e]; exact hx⟩
    · exact ⟨x.wk, by simp only [e, hx]; rfl⟩
end
theorem InvA.less {w0 : World} {F0 : Nat → Prop} {Pb : PB} {N : Nat} {S S' : St} {a : Act} {w : World} (h : InvA w0 F0 Pb N S a w) (ht : ∀ v, LeX (S.t v) (S'.t v)) (hr : ∀ g, S'.r g = S.r g ∨ S'.r g = (S.r g).map X.wk) : InvA w0 F0 Pb N S' a w := by
  obtain ⟨h1, h2, F, A, h3⟩ := h
  exact ⟨h1, h2, F, A, h3.less ht hr⟩
/-! ### shapes of slots and places -/
inductive LSh where
  | ty (τ : Ty) | slf (τ : Ty) | ar (d : Nat) (τ : Ty) | hw (g : Nat) | hd (g : Nat) (full : Bool) | pt (g : Nat) (ps : List (Nat × Nat)) | np | nm | nf | fn (f : Nat) (gs : List Nat) | ag (c : LSh) | pr (a c : LSh) | tup0
  deriving Inhabited
def LSh.den : LSh → Type
  | .ty τ => τ.den
  | .slf τ => List τ.den
  | .ar _ τ => List τ.den
  | .hd _ _ => Nat × Nat
  | .ag c => c.den
  | .pr a c => a.den × c.den
  | .hw _ | .pt _ _ | .np | .nm | .nf | .fn _ _ | .tup0 => Unit
def stepsOf (ps : List (Nat × Nat)) : List PStep := ps.map fun p => .f p.1 p.2
def sameSteps : List PStep → List (Nat × Nat) → Bool
  | [], [] => true
  | .f j o :: ps, q :: qs => j == q.1 && o == q.2 && sameSteps ps qs
  | _, _ => false
theorem sameSteps_ok : ∀ {ps : List PStep} {qs : List (Nat × Nat)}, sameSteps ps qs = true → ps = stepsOf qs
  | [], [], h => rfl
  | .f j o :: ps, q :: qs, h => by
    simp only [sameSteps, Bool.and_eq_true, beq_iff_eq] at h
    obtain ⟨⟨rfl, rfl⟩, h3⟩ := h
    rw [sameSteps_ok h3]; rfl
  | [], _ :: _, h => by simp [sameSteps] at h
  | .f _ _ :: _, [], h => by simp [sameSteps] at h
  | .x _ _ :: _, _, h => by simp [sameSteps] at h
mutual
def mkL : (s : LSh) → s.den → TX
  | .ty τ, v => emb τ v
  | .slf τ, v => .sl true τ v
  | .ar d τ, v => .ar d τ v
  | .hw g, _ => .hw g
  | .hd g f, v => .hd g v.1 v.2 f
  | .pt g ps, _ => .pt g (stepsOf ps)
  | .np, _ => .np
  | .nm, _ => .nm
  | .nf, _ => .nf
  | .fn f gs, _ => .fn f (gs.map fun g => .pt g [])
  | .ag c, v => .ag (mkLC c v)
  | .pr a c, v => .ag (mkL a v.1 :: mkLC c v.2)
  | .tup0, _ => .tup []
def mkLC : (s : LSh) → s.den → List TX
  | .ty τ, v => [emb τ v]
  | .slf τ, v => [.sl true τ v]
  | .ar d τ, v => [.ar d τ v]
  | .hw g, _ => [.hw g]
  | .hd g f, v => [.hd g v.1 v.2 f]
  | .pt g ps, _ => [.pt g (stepsOf ps)]
  | .np, _ => [.np]
  | .nm, _ => [.nm]
  | .nf, _ => [.nf]
  | .fn f gs, _ => [.fn f (gs.map fun g => .pt g [])]
  | .ag c, v => [.ag (mkLC c v)]
  | .pr a c, v => mkL a v.1 :: mkLC c v.2
  | .tup0, _ => [.tup []]
end
def unAr (d : Nat) (τ : Ty) : TX → Option (Bool × List τ.den)
  | .ar d' σ c => if d' = d then (match asTy σ c τ with
    | some us => some (true, us)
    | none => none) else none
  | _ => none
def unSlf (τ : Ty) : TX → Option (Bool × List τ.den)
  | .sl true σ c => match asTy σ c τ with
    | some us => some (true, us)
    | none => none
  | .emp true => some (true, [])
  | _ => none
def unHw (g : Nat) : TX → Option (Bool × Unit)
  | .hw h => if h = g then some (true, ()) else none
  | _ => none
def unHd (g : Nat) (f : Bool) : TX → Option (Bool × (Nat × Nat))
  | .hd h lo len f' => if h = g ∧ f' = f then some (true, (lo, len)) else none
  | _ => none
def unPt (g : Nat) (ps : List (Nat × Nat)) : TX → Option (Bool × Unit)
  | .pt h qs => if h = g ∧ sameSteps qs ps = true then some (true, ()) else none
  | _ => none
def unNp : TX → Option (Bool × Unit)
  | .np => some (true, ())
  | _ => none
def unNm : TX → Option (Bool × Unit)
  | .nm => some (true, ())
  | _ => none
def unNf : TX → Option (Bool × Unit)
  | .nf => some (true, ())
  | _ => none
def sameCap : List TX → List Nat → Bool
  | [], [] => true
  | .pt g [] :: l, h :: m => g == h && sameCap l m
  | _, _ => false
theorem sameCap_ok : ∀ {l : List TX} {m : List Nat}, sameCap l m = true → l = m.map fun g => .pt g []
  | [], [], h => rfl
  | .pt g [] :: l, k :: m, h => by
    simp only [sameCap, Bool.and_eq_true, beq_iff_eq] at h
    obtain ⟨rfl, h2⟩ := h
    rw [sameCap_ok h2]; rfl
  | [], _ :: _, h => by simp [sameCap] at h
  | x :: l, [], h => by simp [sameCap] at h
  | .pt g (_ :: _) :: l, k :: m, h | .b _ :: l, k :: m, h | .i _ _ :: l, k :: m, h | .s _ :: l, k :: m, h | .ag _ :: l, k :: m, h | .ar _ _ _ :: l, k :: m, h | .tup _ :: l, k :: m, h | .sl _ _ _ :: l, k :: m, h | .emp _ :: l, k :: m, h | .hw _ :: l, k :: m, h | .hd _ _ _ _ :: l, k :: m, h | .np :: l, k :: m, h | .pf _ :: l, k :: m, h | .nm :: l, k :: m, h | .nf :: l, k :: m, h | .fn _ _ :: l, k :: m, h | .bot :: l, k :: m, h => by simp [sameCap] at h
def unFn (f : Nat) (gs : List Nat) : TX → Option (Bool × Unit)
  | .fn f' cap => if f' = f ∧ sameCap cap gs = true then some (true, ()) else none
  | _ => none
theorem unFn_ok {f : Nat} {gs : List Nat} {x : TX} {v : Unit} (h : unFn f gs x = some (true, v)) : x = .fn f (gs.map fun g => .pt g []) := by
  cases x <;> simp only [unFn, reduceCtorEq] at h
  split at h
  · rename_i e; rw [e.1, sameCap_ok e.2]
  · cases h
def unT0 : TX → Option (Bool × Unit)
  | .tup [] => some (true, ())
  | _ => none
def unPairC {A B : Type} (q : Option (Bool × A)) (p : Option (Bool × B)) : Option (Bool × (A × B)) :=
  match q with
  | some (c, u) => match p with
    | some (c', v) => some (c && c', (u, v))
    | none => none
  | none => none
mutual
def unL : (s : LSh) → TX → Option (Bool × s.den)
  | .ty τ, x => unemb τ x
  | .slf τ, x => unSlf τ x
  | .ar d τ, x => unAr d τ x
  | .hw g, x => unHw g x
  | .hd g f, x => unHd g f x
  | .pt g ps, x => unPt g ps x
  | .np, x => unNp x
  | .nm, x => unNm x
  | .nf, x => unNf x
  | .fn f gs, x => unFn f gs x
  | .ag c, x => match agOf x with
    | some xs => unLC c xs
    | none => none
  | .pr _ _, _ => none
  | .tup0, x => unT0 x
def unLC : (s : LSh) → List TX → Option (Bool × s.den)
  | .pr a c, xs => match headT xs with
    | some (x, ys) => unPairC (unL a x) (unLC c ys)
    | none => none
  | .ty τ, xs => match lone xs with
    | some x => unemb τ x
    | none => none
  | .slf τ, xs => match lone xs with
    | some x => unSlf τ x
    | none => none
  | .ar d τ, xs => match lone xs with
    | some x => unAr d τ x
    | none => none
  | .hw g, xs => match lone xs with
    | some x => unHw g x
    | none => none
  | .hd g f, xs => match lone xs with
    | some x => unHd g f x
    | none => none
  | .pt g ps, xs => match lone xs with
    | some x => unPt g ps x
    | none => none
  | .np, xs => match lone xs with
    | some x => unNp x
    | none => none
  | .nm, xs => match lone xs with
    | some x => unNm x
    | none => none
  | .nf, xs => match lone xs with
    | some x => unNf x
    | none => none
  | .fn f gs, xs => match lone xs with
    | some x => unFn f gs x
    | none => none
  | .ag c, xs => match lone xs with
    | some x => (match agOf x with
      | some ys => unLC c ys
      | none => none)
    | none => none
  | .tup0, xs => match lone xs with
    | some x => unT0 x
    | none => none
end
theorem unSlf_ok {τ : Ty} {x : TX} {v : List τ.den} (h : unSlf τ x = some (true, v)) : x.x = .sl true (v.map (embX τ)) := by
  cases x with
  | sl f σ c =>
    cases f <;> simp only [unSlf, reduceCtorEq] at h
    split at h
    · rename_i us hu
      cases h
      simp only [TX.x, (asTy_ok hu).1]
    · cases h
  | emp f =>
    cases f <;> simp only [unSlf, reduceCtorEq] at h
    cases h
    simp [TX.x]
  | _ => simp [unSlf] at h
theorem unAr_ok {d : Nat} {τ : Ty} {x : TX} {v : List τ.den} (h : unAr d τ x = some (true, v)) : x.x = .ar d (v.map (embX τ)) := by
  cases x <;> simp only [unAr, reduceCtorEq] at h
  split at h
  · rename_i hd
    split at h
    · rename_i us hu
      cases h
      simp only [TX.x, (asTy_ok hu).1, hd]
    · cases h
  · cases h
theorem unHw_ok {g : Nat} {x : TX} {v : Unit} (h : unHw g x = some (true, v)) : x = .hw g := by
  cases x <;> simp only [unHw, reduceCtorEq] at h
  split at h
  · rename_i e; rw [e]
  · cases h
theorem unHd_ok {g : Nat} {f : Bool} {x : TX} {v : Nat × Nat} (h : unHd g f x = some (true, v)) : x = .hd g v.1 v.2 f := by
  cases x <;> simp only [unHd, reduceCtorEq] at h
  split at h
  · rename_i e; cases h; rw [e.1, e.2]
  · cases h
theorem unPt_ok {g : Nat} {ps : List (Nat × Nat)} {x : TX} {v : Unit} (h : unPt g ps x = some (true, v)) : x = .pt g (stepsOf ps) := by
  cases x <;> simp only [unPt, reduceCtorEq] at h
  split at h
  · rename_i e; rw [e.1, sameSteps_ok e.2]
  · cases h
theorem unNp_ok {x : TX} {v : Unit} (h : unNp x = some (true, v)) : x = .np := by cases x <;> simp [unNp] at h; rfl
theorem unNm_ok {x : TX} {v : Unit} (h : unNm x = some (true, v)) : x = .nm := by cases x <;> simp [unNm] at h; rfl
theorem unNf_ok {x : TX} {v : Unit} (h : unNf x = some (true, v)) : x = .nf := by cases x <;> simp [unNf] at h; rfl
theorem unT0_ok {x : TX} {v : Unit} (h : unT0 x = some (true, v)) : x = .tup [] := by
  unfold unT0 at h
  split at h
  · rfl
  · cases h
theorem unPairC_ok {A B : Type} {q : Option (Bool × A)} {p : Option (Bool × B)} {v : A × B} (h : unPairC q p = some (true, v)) : q = some (true, v.1) ∧ p = some (true, v.2) := by
  unfold unPairC at h
  split at h
  · split at h
    · rename_i c u c' u'
      simp only [Option.some.injEq, Prod.mk.injEq, Bool.and_eq_true] at h
      obtain ⟨⟨rfl, rfl⟩, rfl⟩ := h
      exact ⟨rfl, rfl⟩
    · cases h
  · cases h
mutual
theorem unL_ok : ∀ (s : LSh) (x : TX) (v : s.den), unL s x = some (true, v) → x.x = (mkL s v).x
  | .ty τ, x, v, h => (unemb_ok τ x v h).trans (emb_x τ v).symm
  | .slf τ, x, v, h => unSlf_ok h
  | .ar d τ, x, v, h => unAr_ok h
  | .hw g, x, v, h => congrArg TX.x (unHw_ok h)
  | .hd g f, x, v, h => congrArg TX.x (unHd_ok h)
  | .pt g ps, x, v, h => congrArg TX.x (unPt_ok h)
  | .np, x, v, h => congrArg TX.x (unNp_ok h)
  | .nm, x, v, h => congrArg TX.x (unNm_ok h)
  | .nf, x, v, h => congrArg TX.x (unNf_ok h)
  | .fn f gs, x, v, h => congrArg TX.x (unFn_ok h)
  | .ag c, x, v, h => by
    simp only [unL] at h
    split at h
    · rename_i xs hx
      rw [agOf_ok hx]
      simp only [mkL, TX.x]
      rw [unLC_ok c xs v h]
    · cases h
  | .pr a c, x, v, h => by simp [unL] at h
  | .tup0, x, v, h => congrArg TX.x (unT0_ok h)
theorem unLC_ok : ∀ (s : LSh) (xs : List TX) (v : s.den), unLC s xs = some (true, v) → txL xs = txL (mkLC s v)
  | .pr a c, xs, v, h => by
    simp only [unLC] at h
    split at h
    · rename_i x ys hx
      obtain ⟨h1, h2⟩ := unPairC_ok h
      rw [headT_ok hx]
      simp only [mkLC, txL]
      rw [unL_ok a x v.1 h1, unLC_ok c ys v.2 h2]
    · cases h
  | .ty τ, xs, v, h => by
    simp only [unLC] at h
    split at h
    · rename_i x hx
      rw [lone_ok hx]
      exact congrArg (fun y => [y]) ((unemb_ok τ x v h).trans (emb_x τ v).symm)
    · cases h
  | .slf τ, xs, v, h => by
    simp only [unLC] at h
    split at h
    · rename_i x hx; rw [lone_ok hx]; exact congrArg (fun y => [y]) (unSlf_ok h)
    · cases h
  | .ar d τ, xs, v, h => by
    simp only [unLC] at h
    split at h
    · rename_i x hx; rw [lone_ok hx]; exact congrArg (fun y => [y]) (unAr_ok h)
    · cases h
  | .hw g, xs, v, h => by
    simp only [unLC] at h
    split at h
    · rename_i x hx; rw [lone_ok hx]; exact congrArg (fun y => [TX.x y]) (unHw_ok h)
    · cases h
  | .hd g f, xs, v, h => by
    simp only [unLC] at h
    split at h
    · rename_i x hx; rw [lone_ok hx]; exact congrArg (fun y => [TX.x y]) (unHd_ok h)
    · cases h
  | .pt g ps, xs, v, h => by
    simp only [unLC] at h
    split at h
    · rename_i x hx; rw [lone_ok hx]; exact congrArg (fun y => [TX.x y]) (unPt_ok h)
    · cases h
  | .np, xs, v, h => by
    simp only [unLC] at h
    split at h
    · rename_i x hx; rw [lone_ok hx]; exact congrArg (fun y => [TX.x y]) (unNp_ok h)
    · cases h
  | .nm, xs, v, h => by
    simp only [unLC] at h
    split at h
    · rename_i x hx; rw [lone_ok hx]; exact congrArg (fun y => [TX.x y]) (unNm_ok h)
    · cases h
  | .nf, xs, v, h => by
    simp only [unLC] at h
    split at h
    · rename_i x hx; rw [lone_ok hx]; exact congrArg (fun y => [TX.x y]) (unNf_ok h)
    · cases h
  | .fn f gs, xs, v, h => by
    simp only [unLC] at h
    split at h
    · rename_i x hx; rw [lone_ok hx]; exact congrArg (fun y => [TX.x y]) (unFn_ok h)
    · cases h
  | .ag c, xs, v, h => by
    simp only [unLC] at h
    split at h
    · rename_i x hx
      split at h
      · rename_i ys hy
        rw [lone_ok hx]
        simp only [mkLC, txL, TX.x, agOf_ok hy]
        rw [unLC_ok c ys v h]
      · cases h
    · cases h
  | .tup0, xs, v, h => by
    simp only [unLC] at h
    split at h
    · rename_i x hx; rw [lone_ok hx]; exact congrArg (fun y => [TX.x y]) (unT0_ok h)
    · cases h
end
/-- Is nothing of it unknown? -/
def LSh.stat : LSh → Bool
  | .hw _ | .pt _ _ | .np | .nm | .nf | .fn _ _ | .tup0 => true
  | .ty _ | .slf _ | .ar _ _ | .hd _ _ | .ag _ | .pr _ _ => false
def LSh.dfl : (s : LSh) → s.den
  | .ty τ => τ.dflt
  | .slf τ => ([] : List τ.den)
  | .ar _ τ => ([] : List τ.den)
  | .hd _ _ => (0, 0)
  | .ag c => c.dfl
  | .pr a c => (a.dfl, c.dfl)
  | .hw _ | .pt _ _ | .np | .nm | .nf | .fn _ _ | .tup0 => ()
def consD (b : Bool) (A B : Type) : Type := match b with
  | true => B
  | false => A × B
def consD.mk {A B : Type} : (b : Bool) → A → B → consD b A B
  | true, _, v => v
  | false, u, v => (u, v)
def consD.fst {A B : Type} (a : A) : (b : Bool) → consD b A B → A
  | true, _ => a
  | false, v => v.1
def consD.snd {A B : Type} : (b : Bool) → consD b A B → B
  | true, v => v
  | false, v => v.2
def lden : List (Nat × LSh) → Type
  | [] => Unit
  | [p] => p.2.den
  | p :: q :: l => consD p.2.stat p.2.den (lden (q :: l))
theorem stat_dfl : ∀ {s : LSh} (v : s.den), s.stat = true → v = s.dfl
  | .hw _, v, _ | .pt _ _, v, _ | .np, v, _ | .nm, v, _ | .nf, v, _ | .fn _ _, v, _ | .tup0, v, _ => rfl
  | .ty _, v, h | .slf _, v, h | .ar _ _, v, h | .hd _ _, v, h | .ag _, v, h | .pr _ _, v, h => by simp [LSh.stat] at h
/-- Slots of these shapes. -/
def mkT : (l : List (Nat × LSh)) → lden l → Nat → TX
  | [], _ => fun _ => .bot
  | [p], v => upd (fun _ => .bot) p.1 (mkL p.2 v)
  | p :: q :: l, v => upd (mkT (q :: l) (consD.snd p.2.stat v)) p.1 (mkL p.2 (consD.fst p.2.dfl p.2.stat v))
def mkRr : (l : List (Nat × LSh)) → lden l → Nat → Option TX
  | [], _ => fun _ => none
  | [p], v => upd (fun _ => none) p.1 (some (mkL p.2 v))
  | p :: q :: l, v => upd (mkRr (q :: l) (consD.snd p.2.stat v)) p.1 (some (mkL p.2 (consD.fst p.2.dfl p.2.stat v)))
def LSh.wkd : LSh → TX → TX
  | .slf _, x => x
  | .ty _, x | .ar _ _, x | .hw _, x | .hd _ _, x | .pt _ _, x | .np, x | .nm, x | .nf, x | .fn _ _, x | .ag _, x | .pr _ _, x | .tup0, x => x.wk
def unTs (t : Nat → TX) : (l : List (Nat × LSh)) → Option (Bool × lden l)
  | [] => some (true, ())
  | [p] => unL p.2 (p.2.wkd (t p.1))
  | p :: q :: l => match unL p.2 (p.2.wkd (t p.1)) with
    | some (c, u) => match unTs t (q :: l) with
      | some (c', v) => some (c && c', consD.mk p.2.stat u v)
      | none => none
    | none => none
def unRs (r : Nat → Option TX) : (l : List (Nat × LSh)) → Option (Bool × lden l)
  | [] => some (true, ())
  | [p] => match r p.1 with
    | some x => unL p.2 (p.2.wkd x)
    | none => none
  | p :: q :: l => match r p.1 with
    | some x => match unL p.2 (p.2.wkd x) with
      | some (c, u) => match unRs r (q :: l) with
        | some (c', v) => some (c && c', consD.mk p.2.stat u v)
        | none => none
      | none => none
    | none => none
theorem wkd_le (s : LSh) (x : TX) : (s.wkd x).x = x.x ∨ (s.wkd x).x = x.x.wk := by
  cases s <;> simp [LSh.wkd, wk_x]
theorem mkT_step {p : Nat × LSh} {u : p.2.den} {B : Type} {v : B} : consD.snd p.2.stat (consD.mk (A := p.2.den) p.2.stat u v) = v ∧ (mkL p.2 (consD.fst p.2.dfl p.2.stat (consD.mk (B := B) p.2.stat u v))) = mkL p.2 u := by
  cases h : p.2.stat with
  | true => exact ⟨rfl, by rw [stat_dfl u h]; rfl⟩
  | false => exact ⟨rfl, rfl⟩
theorem unTs_ok (t : Nat → TX) : ∀ {l : List (Nat × LSh)} {v : lden l}, unTs t l = some (true, v) → ∀ n, LeX (t n).x (mkT l v n).x
  | [], v, h, n => .inr (.inr (by simp [mkT, TX.x]))
  | [p], v, h, n => by
    have h1 := unL_ok _ _ _ h
    simp only [mkT, upd]
    split
    · rename_i e
      subst e
      rw [← h1]
      rcases wkd_le p.2 (t p.1) with e | e
      · exact .inl e
      · exact .inr (.inl e)
    · exact .inr (.inr (by simp [TX.x]))
  | p :: q :: l, v, h, n => by
    simp only [unTs] at h
    split at h
    · rename_i c u hu
      split at h
      · rename_i c' v' hv
        have h3 := congrArg (fun o => (o.getD (false, v)).1) h
        have h4 := congrArg (fun o => (o.getD (false, v)).2) h
        simp only [Option.getD_some, Bool.and_eq_true] at h3 h4
        obtain ⟨rfl, rfl⟩ := h3
        subst h4
        have h1 := unL_ok _ _ _ hu
        obtain ⟨e1, e2⟩ := mkT_step (p := p) (u := u) (v := v')
        simp only [mkT, e1, e2, upd]
        split
        · rename_i e
          subst e
          rw [← h1]
          rcases wkd_le p.2 (t p.1) with e | e
          · exact .inl e
          · exact .inr (.inl e)
        · exact unTs_ok t hv n
      · cases h
    · cases h
theorem unRs_ok (r : Nat → Option TX) : ∀ {l : List (Nat × LSh)} {v : lden l}, unRs r l = some (true, v) → ∀ g, (g ∈ l.map (·.1) → (rX (mkRr l v) g = rX r g ∨ rX (mkRr l v) g = (rX r g).map X.wk)) ∧ (g ∉ l.map (·.1) → rX (mkRr l v) g = none)
  | [], v, h, g => ⟨by simp, fun _ => by simp [mkRr, rX]⟩
  | [p], v, h, g => by
    simp only [unRs] at h
    split at h
    · rename_i x hx
      have h1 := unL_ok _ _ _ h
      by_cases e : g = p.1
      · subst e
        refine ⟨fun _ => ?_, fun hn => by simp at hn⟩
        simp only [rX, mkRr, upd, if_pos, hx, Option.map_some, ← h1]
        rcases wkd_le p.2 x with e | e
        · exact .inl (by rw [e])
        · exact .inr (by rw [e])
      · refine ⟨fun hg => by simp at hg; exact (e hg).elim, fun _ => ?_⟩
        simp [rX, mkRr, upd, e]
    · cases h
  | p :: q :: l, v, h, g => by
    simp only [unRs] at h
    split at h
    · rename_i x hx
      split at h
      · rename_i c u hu
        split at h
        · rename_i c' v' hv
          have h3 := congrArg (fun o => (o.getD (false, v)).1) h
          have h4 := congrArg (fun o => (o.getD (false, v)).2) h
          simp only [Option.getD_some, Bool.and_eq_true] at h3 h4
          obtain ⟨rfl, rfl⟩ := h3
          subst h4
          have h1 := unL_ok _ _ _ hu
          obtain ⟨e1, e2⟩ := mkT_step (p := p) (u := u) (v := v')
          have ih := unRs_ok r hv g
          by_cases e : g = p.1
          · subst e
            refine ⟨fun _ => ?_, fun hn => by simp at hn⟩
            simp only [rX, mkRr, e1, e2, upd, if_pos, hx, Option.map_some, ← h1]
            rcases wkd_le p.2 x with e | e
            · exact .inl (by rw [e])
            · exact .inr (by rw [e])
          · refine ⟨fun hg => ?_, fun hg => ?_⟩
            · have : g ∈ (q :: l).map (·.1) := by
                rw [List.map_cons] at hg
                rcases List.mem_cons.1 hg with hg | hg
                · exact (e hg).elim
                · exact hg
              have := ih.1 this
              simpa only [rX, mkRr, e1, e2, upd, if_neg e] using this
            · have : g ∉ (q :: l).map (·.1) := by
                rw [List.map_cons] at hg
                exact fun h => hg (List.mem_cons_of_mem _ h)
              have := ih.2 this
              simpa only [rX, mkRr, e1, e2, upd, if_neg e] using this
        · cases h
      · cases h
    · cases h
end Go.EV
