/- Functions on typed values; one operation after the other, with what comes behind. -/
import Derived.Test.YtehjeifbgegabaaTv5
set_option linter.unusedVariables false
set_option linter.unusedSimpArgs false
namespace Go.EV
open Go.RowKit
/-- What a function hands back. -/
inductive RSh where
  | ty (τ : Ty) | ow (d : Nat) (τ : Ty) | ag (c : RSh) | tup (c : RSh) | pr (a c : RSh) | ob (s : RSh) | np | un
  deriving Inhabited
def RSh.den : RSh → Type
  | .ty τ => τ.den
  | .ow _ τ => List τ.den
  | .ag c => c.den
  | .tup c => c.den
  | .pr a c => a.den × c.den
  | .ob s => s.den
  | .np => Unit
  | .un => Unit
def RSh.flat : RSh → Bool
  | .ty τ => τ.flat
  | .ow _ τ => τ.flat
  | .ag c => c.flat
  | .tup c => c.flat
  | .pr a c => a.flat && c.flat
  | .ob s => s.flat
  | .np => true
  | .un => true
mutual
def embR : (s : RSh) → s.den → X
  | .ty τ, v => embX τ v
  | .ow d τ, v => .ow d (List.map (embX τ) v)
  | .ag c, v => .ag (embRC c v)
  | .tup c, v => .tup (embRC c v)
  | .pr a c, v => .ag (embR a v.1 :: embRC c v.2)
  | .ob s, v => .ob (embR s v)
  | .np, _ => .np
  | .un, _ => .tup []
def embRC : (s : RSh) → s.den → List X
  | .ty τ, v => [embX τ v]
  | .ow d τ, v => [.ow d (List.map (embX τ) v)]
  | .ag c, v => [.ag (embRC c v)]
  | .tup c, v => [.tup (embRC c v)]
  | .pr a c, v => embR a v.1 :: embRC c v.2
  | .ob s, v => [.ob (embR s v)]
  | .np, _ => [.np]
  | .un, _ => []
end
mutual
/-- What comes over gets names. -/
def impR (nm : Nat → Nat) : (s : RSh) → s.den → Nat → TX × List (Nat × TX) × Nat
  | .ty τ, v, j => (emb τ v, [], j)
  | .ow d τ, v, j => (.hw (nm j), [(nm j, .ar d τ v)], j + 1)
  | .ag c, v, j => (.ag (impRC nm c v j).1, (impRC nm c v j).2.1, (impRC nm c v j).2.2)
  | .tup c, v, j => (.tup (impRC nm c v j).1, (impRC nm c v j).2.1, (impRC nm c v j).2.2)
  | .pr a c, v, j => (.ag ((impR nm a v.1 j).1 :: (impRC nm c v.2 (impR nm a v.1 j).2.2).1), (impR nm a v.1 j).2.1 ++ (impRC nm c v.2 (impR nm a v.1 j).2.2).2.1, (impRC nm c v.2 (impR nm a v.1 j).2.2).2.2)
  | .ob s, v, j => (.pt (nm j) [], (impR nm s v (j + 1)).2.1 ++ [(nm j, (impR nm s v (j + 1)).1)], (impR nm s v (j + 1)).2.2)
  | .np, _, j => (.np, [], j)
  | .un, _, j => (.tup [], [], j)
def impRC (nm : Nat → Nat) : (s : RSh) → s.den → Nat → List TX × List (Nat × TX) × Nat
  | .ty τ, v, j => ([emb τ v], [], j)
  | .ow d τ, v, j => ([.hw (nm j)], [(nm j, .ar d τ v)], j + 1)
  | .ag c, v, j => ([.ag (impRC nm c v j).1], (impRC nm c v j).2.1, (impRC nm c v j).2.2)
  | .tup c, v, j => ([.tup (impRC nm c v j).1], (impRC nm c v j).2.1, (impRC nm c v j).2.2)
  | .pr a c, v, j => ((impR nm a v.1 j).1 :: (impRC nm c v.2 (impR nm a v.1 j).2.2).1, (impR nm a v.1 j).2.1 ++ (impRC nm c v.2 (impR nm a v.1 j).2.2).2.1, (impRC nm c v.2 (impR nm a v.1 j).2.2).2.2)
  | .ob s, v, j => ([.pt (nm j) []], (impR nm s v (j + 1)).2.1 ++ [(nm j, (impR nm s v (j + 1)).1)], (impR nm s v (j + 1)).2.2)
  | .np, _, j => ([.np], [], j)
  | .un, _, j => ([], [], j)
end
theorem imp_fz' (nm : Nat → Nat) (j : Nat) (x : X) (h : x.fz = true) : imp nm j x = (x, [], j) := by
  exact (imp_fz nm j x h)
theorem newsX_append (a b : List (Nat × TX)) : newsX (a ++ b) = newsX a ++ newsX b := by simp [newsX]
mutual
theorem impR_ok (nm : Nat → Nat) : ∀ (s : RSh) (v : s.den) (j : Nat), imp nm j (embR s v) = ((impR nm s v j).1.x, newsX (impR nm s v j).2.1, (impR nm s v j).2.2)
  | .ty τ, v, j => (imp_fz nm j _ (embX_fz τ v)).trans (congrArg (fun x => (x, ([] : List (Nat × X)), j)) (emb_x τ v).symm)
  | .ow d τ, v, j => by simp [embR, impR, imp, TX.x, newsX]
  | .ag c, v, j => by simp only [embR, impR, imp, impRC_ok nm c v j, TX.x]
  | .tup c, v, j => by simp only [embR, impR, imp, impRC_ok nm c v j, TX.x]
  | .pr a c, v, j => by simp only [embR, impR, imp, impL, impR_ok nm a v.1 j, impRC_ok nm c v.2, TX.x, txL, newsX_append]
  | .ob s, v, j => by
    simp only [embR, impR, imp, impR_ok nm s v (j + 1), newsX_append]
    simp [TX.x, newsX, offOf, keysOf]
  | .np, _, j => by simp [embR, impR, imp, TX.x, newsX]
  | .un, _, j => by simp [embR, impR, imp, impL, TX.x, newsX, txL]
theorem impRC_ok (nm : Nat → Nat) : ∀ (s : RSh) (v : s.den) (j : Nat), impL nm j (embRC s v) = (txL (impRC nm s v j).1, newsX (impRC nm s v j).2.1, (impRC nm s v j).2.2)
  | .ty τ, v, j => by
    simp only [embRC, impRC, impL, imp_fz _ _ _ (embX_fz τ v), newsX, List.map_nil, txL, List.append_nil]
    exact congrArg (fun x => ([x], ([] : List (Nat × X)), j)) (emb_x τ v).symm
  | .ow d τ, v, j => by simp [embRC, impRC, imp, impL, TX.x, newsX, txL]
  | .ag c, v, j => by simp only [embRC, impRC, imp, impL, impRC_ok nm c v j, TX.x, txL, List.append_nil]
  | .tup c, v, j => by simp only [embRC, impRC, imp, impL, impRC_ok nm c v j, TX.x, txL, List.append_nil]
  | .pr a c, v, j => by simp only [embRC, impRC, impL, impR_ok nm a v.1 j, impRC_ok nm c v.2, txL, newsX_append]
  | .ob s, v, j => by
    simp only [embRC, impRC, imp, impL, impR_ok nm s v (j + 1), newsX_append, txL, List.append_nil]
    simp [TX.x, newsX, offOf, keysOf]
  | .np, _, j => by simp [embRC, impRC, imp, impL, TX.x, newsX, txL]
  | .un, _, j => by simp [embRC, impRC, imp, impL, TX.x, newsX, txL]
end
mutual
theorem embR_flat : ∀ (s : RSh) (v : s.den), s.flat = true → (embR s v).flat = true
  | .ty τ, v, h => embX_flat τ v h
  | .ow d τ, v, h => by
    simp only [embR, X.flat]
    have : ∀ l : List τ.den, flatL (l.map (embX τ)) = true := by
      intro l
      induction l with
      | nil => rfl
      | cons a l ih => simp only [List.map_cons, flatL, ih, embX_flat τ a h, Bool.and_self]
    exact this v
  | .ag c, v, h => by simp only [embR, X.flat]; exact embRC_flat c v h
  | .tup c, v, h => by simp only [embR, X.flat]; exact embRC_flat c v h
  | .pr a c, v, h => by
    simp only [RSh.flat, Bool.and_eq_true] at h
    simp only [embR, X.flat, flatL, embR_flat a v.1 h.1, embRC_flat c v.2 h.2, Bool.and_self]
  | .ob s, v, h => by simp only [embR, X.flat]; exact embR_flat s v h
  | .np, _, h => by simp [embR, X.flat]
  | .un, _, h => by simp [embR, X.flat, flatL]
theorem embRC_flat : ∀ (s : RSh) (v : s.den), s.flat = true → flatL (embRC s v) = true
  | .ty τ, v, h => by simp only [embRC, flatL, embX_flat τ v h, Bool.and_self]
  | .ow d τ, v, h => by
    have : ∀ l : List τ.den, flatL (l.map (embX τ)) = true := by
      intro l
      induction l with
      | nil => rfl
      | cons a l ih => simp only [List.map_cons, flatL, ih, embX_flat τ a h, Bool.and_self]
    simp only [embRC, flatL, X.flat, this v, Bool.and_self]
  | .ag c, v, h => by simp only [embRC, X.flat, flatL, embRC_flat c v h, Bool.and_self]
  | .tup c, v, h => by simp only [embRC, X.flat, flatL, embRC_flat c v h, Bool.and_self]
  | .pr a c, v, h => by
    simp only [RSh.flat, Bool.and_eq_true] at h
    simp only [embRC, flatL, embR_flat a v.1 h.1, embRC_flat c v.2 h.2, Bool.and_self]
  | .ob s, v, h => by simp only [embRC, flatL, X.flat, embR_flat s v h, Bool.and_self]
  | .np, _, h => by simp [embRC, X.flat, flatL]
  | .un, _, h => by simp [embRC, X.flat, flatL]
end
/-! ### parameters -/
def p1den : Bool × Ty → Type
  | (true, τ) => List τ.den
  | (false, τ) => τ.den
def pden : List (Bool × Ty) → Type
  | [] => Unit
  | [p] => p1den p
  | p :: q :: ps => p1den p × pden (q :: ps)
def mkP1 : (p : Bool × Ty) → p1den p → X
  | (true, τ), v => .sl true (List.map (embX τ) v)
  | (false, τ), v => embX τ v
def mkP : (ps : List (Bool × Ty)) → pden ps → List X
  | [], _ => []
  | [p], v => [mkP1 p v]
  | p :: q :: ps, v => mkP1 p v.1 :: mkP (q :: ps) v.2
def wkP1 : Bool × Ty → X → X
  | (true, _), x => x
  | (false, _), x => x.wk
def wkP : List (Bool × Ty) → List X → List X
  | [], xs => xs
  | p :: ps, x :: xs => wkP1 p x :: wkP ps xs
  | _ :: _, [] => []
def unP1 : (p : Bool × Ty) → TX → Option (Bool × p1den p)
  | (true, τ), x => match x with
    | .sl true σ vs => match asTy σ vs τ with
      | some us => some (true, us)
      | none => none
    | .emp true => some (true, ([] : List τ.den))
    | _ => none
  | (false, τ), x => unemb τ x.wk
def unP : (ps : List (Bool × Ty)) → List TX → Option (Bool × pden ps)
  | [], xs => match xs with
    | [] => some (true, ())
    | _ :: _ => none
  | [p], xs => match lone xs with
    | some x => unP1 p x
    | none => none
  | p :: q :: ps, xs => match headT xs with
    | some (x, ys) => match unP1 p x with
      | some (c, u) => match unP (q :: ps) ys with
        | some (c', v) => some (c && c', (u, v))
        | none => none
      | none => none
    | none => none
theorem unP1_ok {p : Bool × Ty} {x : TX} {v : p1den p} (h : unP1 p x = some (true, v)) : wkP1 p x.x = mkP1 p v := by
  obtain ⟨f, τ⟩ := p
  cases f with
  | false => simp only [wkP1, mkP1]; rw [← unemb_ok τ _ v h, wk_x]
  | true =>
    simp only [wkP1, mkP1]
    cases x with
    | sl f σ vs =>
      cases f <;> simp only [unP1, reduceCtorEq] at h
      split at h
      · rename_i us hu
        have h : us = v := congrArg Prod.snd (Option.some.inj h)
        subst h
        simp only [TX.x, (asTy_ok hu).1]
      · cases h
    | emp f =>
      cases f <;> simp only [unP1, reduceCtorEq] at h
      have h : ([] : List τ.den) = v := congrArg Prod.snd (Option.some.inj h)
      subst h
      rfl
    | _ => simp [unP1] at h
theorem unP_ok : ∀ {ps : List (Bool × Ty)} {xs : List TX} {v : pden ps}, unP ps xs = some (true, v) → wkP ps (txL xs) = mkP ps v
  | [], xs, v, h => by
    cases xs with
    | nil => rfl
    | cons x xs => simp [unP] at h
  | [p], xs, v, h => by
    simp only [unP] at h
    split at h
    · rename_i x hx
      rw [lone_ok hx]
      simp only [txL, wkP, mkP, unP1_ok h]
    · cases h
  | p :: q :: ps, xs, v, h => by
    simp only [unP] at h
    split at h
    · rename_i x ys hx
      split at h
      · rename_i c u hu
        split at h
        · rename_i c' w hw
          have h3 := congrArg (fun o => (o.getD (false, (u, w))).1) h
          have h4 := congrArg (fun o => (o.getD (false, (u, w))).2) h
          simp only [Option.getD_some, Bool.and_eq_true] at h3 h4
          obtain ⟨rfl, rfl⟩ := h3
          subst h4
          rw [headT_ok hx]
          simp only [txL, mkP, ← unP1_ok hu, ← unP_ok hw]
          rfl
        · cases h
      · cases h
    · cases h
mutual
theorem embX_inj : ∀ (τ : Ty) (a b : τ.den), embX τ a = embX τ b → a = b
  | .b, a, b, h => X.b.inj h
  | .i k, a, b, h => (X.i.inj h).2
  | .u8, a, b, h => by
    simp only [embX, X.i.injEq, true_and] at h
    exact UInt8.toNat_inj.1 (Int.ofNat.inj h)
  | .s, a, b, h => X.s.inj h
  | .st c, a, b, h => by simp only [embX, X.ag.injEq] at h; exact embXC_inj c a b h
  | .pr x c, a, b, h => by
    simp only [embX, X.ag.injEq, List.cons.injEq] at h
    exact Prod.ext (embX_inj x _ _ h.1) (embXC_inj c _ _ h.2)
  | .sl e, a, b, h => by
    simp only [embX, X.sl.injEq, true_and] at h
    exact (List.map_inj_right (fun x y hxy => embX_inj e x y hxy)).1 h
theorem embXC_inj : ∀ (τ : Ty) (a b : τ.den), embXC τ a = embXC τ b → a = b
  | .b, a, b, h => X.b.inj (List.cons.inj h).1
  | .i k, a, b, h => (X.i.inj (List.cons.inj h).1).2
  | .u8, a, b, h => by
    simp only [embXC, List.cons.injEq, X.i.injEq, true_and, and_true] at h
    exact UInt8.toNat_inj.1 (Int.ofNat.inj h)
  | .s, a, b, h => X.s.inj (List.cons.inj h).1
  | .st c, a, b, h => by simp only [embXC, List.cons.injEq, X.ag.injEq, and_true] at h; exact embXC_inj c a b h
  | .pr x c, a, b, h => by
    simp only [embXC, List.cons.injEq] at h
    exact Prod.ext (embX_inj x _ _ h.1) (embXC_inj c _ _ h.2)
  | .sl e, a, b, h => by
    simp only [embXC, List.cons.injEq, X.sl.injEq, true_and, and_true] at h
    exact (List.map_inj_right (fun x y hxy => embX_inj e x y hxy)).1 h
end
theorem mkP1_inj {p : Bool × Ty} {a b : p1den p} (h : mkP1 p a = mkP1 p b) : a = b := by
  obtain ⟨f, τ⟩ := p
  cases f with
  | false => exact embX_inj τ a b h
  | true =>
    simp only [mkP1, X.sl.injEq, true_and] at h
    exact (List.map_inj_right (fun x y hxy => embX_inj τ x y hxy)).1 h
theorem mkP_inj : ∀ {ps : List (Bool × Ty)} {a b : pden ps}, mkP ps a = mkP ps b → a = b
  | [], a, b, h => rfl
  | [p], a, b, h => by simp only [mkP, List.cons.injEq, and_true] at h; exact mkP1_inj h
  | p :: q :: ps, a, b, h => by
    simp only [mkP, List.cons.injEq] at h
    exact Prod.ext (mkP1_inj h.1) (mkP_inj h.2)
/-- A function: its parameters, what it hands back, what it computes. -/
structure FI where
  ps : List (Bool × Ty)
  rs : RSh
  G : pden ps → Option rs.den
abbrev Env := FuncId → Option FI
open Classical in
noncomputable def callE (env : Env) (f : FuncId) (xs : List X) : Option (X × List X) :=
  match env f with
  | some inf => if h : ∃ v a, wkP inf.ps xs = mkP inf.ps a ∧ inf.G a = some v then some (embR inf.rs (Classical.choose h), []) else none
  | none => none
theorem callE_eq {env : Env} {f : FuncId} {inf : FI} {xs : List X} {a : pden inf.ps} {v : inf.rs.den} (hf : env f = some inf) (h1 : wkP inf.ps xs = mkP inf.ps a) (h2 : inf.G a = some v) : callE env f xs = some (embR inf.rs v, []) := by
  unfold callE
  simp only [hf]
  have hex : ∃ v a, wkP inf.ps xs = mkP inf.ps a ∧ inf.G a = some v := ⟨v, a, h1, h2⟩
  rw [dif_pos hex]
  obtain ⟨a', h3, h4⟩ := Classical.choose_spec hex
  have := mkP_inj (h1.symm.trans h3)
  subst this
  rw [h2] at h4
  rw [← Option.some.inj h4]
/-- What holds of a function of the program. -/
def FnOk (P : Program) (f : FuncId) (inf : FI) : Prop :=
  ∀ a v, inf.G a = some v → ∀ (w : World) (F : Nat → Prop) (vs : List Value), All2 (fun y v => ∃ cs, Rf w F y cs ∧ v = val y cs) (mkP inf.ps a) vs → (∀ b, F b → b < w.heap.size) →
    (P.funcs[f]?).any (fun fn => fn.body.isSome && fn.name != "runtime.NumGoroutine") = true ∧
    Calls P f vs.toArray w fun e w' => ∃ u F' bs, e = .returned u ∧ Below w.heap.size w w' ∧ RoV w' F' (embR inf.rs v) u bs ∧ bs.Nodup ∧ (∀ b ∈ bs, ¬ F' b ∧ w.heap.size ≤ b ∧ b < w'.heap.size) ∧ (∀ b, F' b → b < w'.heap.size ∧ (b < w.heap.size → F b))
def EnvOk (P : Program) (env : Env) : Prop := ∀ f inf, env f = some inf → FnOk P f inf
theorem all2_wkP {w : World} {F : Nat → Prop} : ∀ {ps : List (Bool × Ty)} {ys : List X} {vs : List Value}, ys.length = (wkP ps ys).length → All2 (fun y v => ∃ cs, Rf w F y cs ∧ v = val y cs) ys vs → All2 (fun y v => ∃ cs, Rf w F y cs ∧ v = val y cs) (wkP ps ys) vs
  | [], _, _, _, h => h
  | p :: ps, _, _, _, .nil => .nil
  | (f, τ) :: ps, _, _, hl, .cons ⟨cs, h1, h2⟩ hs => by
    refine .cons ⟨cs, ?_, ?_⟩ (all2_wkP (by simpa [wkP] using hl) hs)
    · cases f
      · exact rf_wk h1
      · exact h1
    · cases f
      · simp only [wkP1]; rw [wk_val]; exact h2
      · exact h2
theorem wkP_len : ∀ {ps : List (Bool × Ty)} {ys : List X}, ys.length = (wkP ps ys).length
  | [], ys => by simp [wkP]
  | p :: ps, [] => by simp [wkP]
  | p :: ps, y :: ys => by simp only [wkP, List.length_cons, ← wkP_len]
theorem callE_ok {P : Program} {env : Env} (h : EnvOk P env) : CallOk P (callE env) := by
  intro f ts res outs hc w F vs hvs hF
  unfold callE at hc
  split at hc
  · rename_i inf hf
    split at hc
    · rename_i hex
      cases hc
      obtain ⟨a, h1, h2⟩ := Classical.choose_spec hex
      refine h f inf hf a _ h2 w F vs ?_ hF
      rw [← h1]
      exact all2_wkP wkP_len hvs
    · cases hc
  · cases hc
end Go.EV
