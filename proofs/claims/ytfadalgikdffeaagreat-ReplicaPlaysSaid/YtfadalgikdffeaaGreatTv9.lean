/- A body on typed values; its loops. -/
import Derived.Test.YtfadalgikdffeaaGreatTv8
set_option linter.unusedVariables false
set_option linter.unusedSimpArgs false
namespace Go.EV
open Go.RowKit
structure AdT where
  t : Nat
  path : List (Nat × Nat) := []
  g : Nat
  d : Nat
  τ : Ty
  deriving Inhabited
def setTT (S : TS) (t : Nat) (x : TX) : TS := { S with t := upd S.t t x }
def setRT (S : TS) (g : Nat) (x : TX) : TS := { S with r := upd S.r g (some x) }
theorem setTT_ok (S : TS) (t : Nat) (x : TX) : (setTT S t x).x = setT S.x t x.x := by simp only [setTT, setT, TS.x, upd_map]
theorem setRT_ok (S : TS) (g : Nat) (x : TX) : (setRT S g x).x = setR S.x g x.x := by simp only [setRT, setR, TS.x, rX_upd]
def adoptT (S : TS) (e : AdT) : Option TS :=
  match e.path with
  | [] => match S.t e.t with
    | .emp true => match freeNT nlim S.r e.g with
      | true => some (setTT (setRT S e.g (.ar e.d e.τ [])) e.t (.hw e.g))
      | false => none
    | .hw h => if h = e.g then some S else (match freeNT nlim S.r e.g with
      | true => match S.r h with
        | some (.ar d τ c) => some (setTT (setRT (dropIfT S (· == h)) e.g (.ar d τ c)) e.t (.hw e.g))
        | _ => none
      | false => none)
    | .pt h [] => if h = e.g then some S else (match freeNT nlim S.r e.g with
      | true => match S.r h with
        | some c => some (setTT (setRT (dropIfT S (· == h)) e.g (c.kill (· == h))) e.t (.pt e.g []))
        | none => none
      | false => none)
    | .hd h lo len _ => (match freeNT nlim (dropIfT S (· == h)).r e.g with
      | true => match S.r h with
        | some (.ar d τ c) => some (setTT (setRT (dropIfT S (· == h)) e.g (.ar d τ ((List.drop lo c).take len))) e.t (.hw e.g))
        | _ => none
      | false => none)
    | _ => none
  | p :: ps => match S.t e.t with
    | .pt b [] => match S.r b with
      | some c => match navT c (stepsOf (p :: ps)) with
        | some (true, .emp true) => match freeNT nlim S.r e.g with
          | true => match setAtT c (stepsOf (p :: ps)) (.hw e.g) with
            | some (true, c') => some (setRT (setRT S e.g (.ar e.d e.τ [])) b c')
            | _ => none
          | false => none
        | some (true, .hw h) => if h = e.g then some S else if h == b then none else (match freeNT nlim S.r e.g with
          | true => match S.r h with
            | some (.ar d τ cc) => match navT (c.kill (· == h)) (stepsOf (p :: ps)) with
              | some (true, _) => match setAtT (c.kill (· == h)) (stepsOf (p :: ps)) (.hw e.g) with
                | some (true, c') => some (setRT (setRT (dropIfT S (· == h)) e.g (.ar d τ cc)) b c')
                | _ => none
              | _ => none
            | _ => none
          | false => none)
        | some (true, .hd h lo len _) => if h == b then none else (match freeNT nlim (dropIfT S (· == h)).r e.g with
          | true => match S.r h with
            | some (.ar d τ cc) => match navT (c.kill (· == h)) (stepsOf (p :: ps)) with
              | some (true, _) => match setAtT (c.kill (· == h)) (stepsOf (p :: ps)) (.hw e.g) with
                | some (true, c') => some (setRT (setRT (dropIfT S (· == h)) e.g (.ar d τ ((List.drop lo cc).take len))) b c')
                | _ => none
              | _ => none
            | _ => none
          | false => none)
        | _ => none
      | none => none
    | _ => none
theorem noX (ps : List (Nat × Nat)) : (stepsOf ps).any PStep.isX = false := by
  induction ps with
  | nil => rfl
  | cons p ps ih => simp only [stepsOf, List.map_cons, List.any_cons, PStep.isX, Bool.false_or]; exact ih
theorem adoptT_ok {S S' : TS} {e : AdT} (h : adoptT S e = some S') : adopt S.x e.t (keysOf (stepsOf e.path)) e.g e.d = some S'.x := by
  obtain ⟨t, path, g, d, τ⟩ := e
  unfold adoptT at h
  simp only at h
  split at h
  · simp only [stepsOf, List.map_nil, keysOf, adopt]
    split at h
    · rename_i ht
      have ht' : S.x.t t = .sl true [] := by simp [TS.x, ht, TX.x]
      split at h
      · rename_i hg
        cases h
        have hg' : freeN nlim S.x.r g = true := freeNT_ok hg
        simp only [ht', hg', setTT_ok, setRT_ok, TX.x, List.map_nil]
      · cases h
    · rename_i k ht
      have ht' : S.x.t t = .hw k := by simp [TS.x, ht, TX.x]
      simp only [ht']
      split at h
      · rename_i e; cases h; rw [if_pos e]
      · rename_i e
        rw [if_neg e]
        split at h
        · rename_i hg
          have hg' : freeN nlim S.x.r g = true := freeNT_ok hg
          split at h
          · rename_i d' τ' c hk
            cases h
            have hk' : S.x.r k = some (.ar d' (c.map (embX τ'))) := by simp [TS.x, rX, hk, TX.x]
            simp only [hg', hk', setTT_ok, setRT_ok, TX.x, dropIfT_ok]
          · cases h
        · cases h
    · rename_i k ht
      have ht' : S.x.t t = .pt k 0 [] := by simp [TS.x, ht, TX.x, offOf, keysOf]
      simp only [ht']
      split at h
      · rename_i e; cases h; rw [if_pos e]
      · rename_i e
        rw [if_neg e]
        split at h
        · rename_i hg
          have hg' : freeN nlim S.x.r g = true := freeNT_ok hg
          split at h
          · rename_i c hk
            cases h
            have hk' : S.x.r k = some c.x := by simp [TS.x, rX, hk]
            simp only [hg', hk', setTT_ok, setRT_ok, TX.x, dropIfT_ok, kill_x, offOf, keysOf, List.map_nil]
          · cases h
        · cases h
    · rename_i k lo len f ht
      have ht' : S.x.t t = .hd k lo len f := by simp [TS.x, ht, TX.x]
      simp only [ht']
      split at h
      · rename_i hg
        have hg' : freeN nlim (dropIfT S (· == k)).x.r g = true := freeNT_ok hg
        split at h
        · rename_i d' τ' c hk
          cases h
          have hk' : S.x.r k = some (.ar d' (c.map (embX τ'))) := by simp [TS.x, rX, hk, TX.x]
          simp only [hg', hk', setTT_ok, setRT_ok, TX.x, dropIfT_ok, mid, List.map_take, List.map_drop]
        · cases h
      · cases h
    · cases h
  · rename_i p ps
    split at h
    · rename_i b ht
      have ht' : S.x.t t = .pt b 0 [] := by simp [TS.x, ht, TX.x, offOf, keysOf]
      split at h
      · rename_i c hb
        have hb' : S.x.r b = some c.x := by simp [TS.x, rX, hb]
        have hk : ∃ k ks, keysOf (stepsOf (p :: ps)) = k :: ks := ⟨_, _, rfl⟩
        split at h
        · rename_i hn
          have hn' := navT_ok hn
          have hin := inAr_ok hn
          rw [noX] at hin
          simp only [TX.x, List.map_nil] at hn'
          split at h
          · rename_i hg
            have hg' : freeN nlim S.x.r g = true := freeNT_ok hg
            split at h
            · rename_i c' hs
              cases h
              have hs' := setAtT_ok hn hs
              obtain ⟨k, ks, hks⟩ := hk
              rw [hks] at hn' hin hs' ⊢
              simp only [adopt, ht', hb', hn', hin, Bool.false_eq_true, if_false, hg', setRT_ok, TX.x, List.map_nil]
              simp only [TX.x] at hs'
              rw [hs']
            · cases h
          · cases h
        · rename_i k hn
          have hn' := navT_ok hn
          have hin := inAr_ok hn
          rw [noX] at hin
          simp only [TX.x] at hn'
          split at h
          · rename_i e
            cases h
            obtain ⟨q, ks, hks⟩ := hk
            rw [hks] at hn' ⊢
            simp only [adopt, ht', hb', hn', if_pos e]
          · rename_i e
            split at h
            · cases h
            · rename_i hkb
              split at h
              · rename_i hg
                have hg' : freeN nlim S.x.r g = true := freeNT_ok hg
                split at h
                · rename_i d' τ' cc hk2
                  have hk' : S.x.r k = some (.ar d' (cc.map (embX τ'))) := by simp [TS.x, rX, hk2, TX.x]
                  split at h
                  · rename_i y hn2
                    split at h
                    · rename_i c' hs
                      cases h
                      have hs' := setAtT_ok hn2 hs
                      obtain ⟨q, ks, hks⟩ := hk
                      rw [hks] at hn' hin hs' ⊢
                      have hkb' : (k == b) = false := by simpa using hkb
                      simp only [adopt, ht', hb', hn', if_neg e, hin, hkb', Bool.or_self, Bool.false_eq_true, if_false, hg', hk', setRT_ok, TX.x, dropIfT_ok]
                      simp only [TX.x] at hs'
                      rw [← hs', kill_x]
                    · cases h
                  · cases h
                · cases h
              · cases h
        · rename_i k lo len f hn
          have hn' := navT_ok hn
          have hin := inAr_ok hn
          rw [noX] at hin
          simp only [TX.x] at hn'
          split at h
          · cases h
          · rename_i hkb
            split at h
            · rename_i hg
              have hg' : freeN nlim (dropIfT S (· == k)).x.r g = true := freeNT_ok hg
              split at h
              · rename_i d' τ' cc hk2
                have hk' : S.x.r k = some (.ar d' (cc.map (embX τ'))) := by simp [TS.x, rX, hk2, TX.x]
                split at h
                · rename_i y hn2
                  split at h
                  · rename_i c' hs
                    cases h
                    have hs' := setAtT_ok hn2 hs
                    obtain ⟨q, ks, hks⟩ := hk
                    rw [hks] at hn' hin hs' ⊢
                    have hkb' : (k == b) = false := by simpa using hkb
                    simp only [adopt, ht', hb', hn', hin, hkb', Bool.or_self, Bool.false_eq_true, if_false, hg', hk', setRT_ok, TX.x, dropIfT_ok, mid, List.map_take, List.map_drop]
                    simp only [TX.x] at hs'
                    rw [← hs', kill_x]
                  · cases h
                · cases h
              · cases h
            · cases h
        · cases h
      · cases h
    · cases h
def adoptTL : TS → List AdT → Option TS
  | S, [] => some S
  | S, e :: l => match adoptT S e with
    | some S' => adoptTL S' l
    | none => none
/-- What is known at a place of the code. -/
structure NS where
  slots : List (Nat × LSh)
  roots : List (Nat × LSh)
  fr : List Nat := []
  ad : List AdT := []
  deriving Inhabited
def NS.den (ns : NS) : Type := lden ns.slots × lden ns.roots
def NS.mk' (ns : NS) (v : ns.den) : TS := { t := mkT ns.slots v.1, r := mkRr ns.roots v.2 }
/-- What a region asks to be frozen ahead of it: the arrays in what a place holds, at a path. -/
def zapAt : List Nat → TX → TX
  | [], x => x
  | i :: p, x => match x with
    | .ag xs => zapAt p (xs.getD i .bot)
    | _ => .bot
def zapT (an : FuncId → An) (id : Nat) (S : TS) : List Nat :=
  ((an 0).zap.filter fun z => z.1 == id).flatMap fun z => match S.r z.2.1 with
    | some x => (zapAt z.2.2 x).refs
    | none => []
def zapA (an : FuncId → An) (z : List (Nat × Nat × List Nat)) : FuncId → An := fun f => { an f with zap := z }
def normT (ns : NS) (S : TS) : Option (Bool × ns.den) :=
  match freezeTL S ((ns.fr.map S.t).flatMap TX.refs) with
  | some S1 => match adoptTL S1 ns.ad with
    | some S2 => unPairC (unTs (dropIfT S2 fun g => !(ns.roots.map (·.1)).contains g).t ns.slots) (unRs (dropIfT S2 fun g => !(ns.roots.map (·.1)).contains g).r ns.roots)
    | none => none
  | none => none
section
variable {w0 : World} {F0 : Nat → Prop} {Pb : PB} {N : Nat} {a : Act} {w : World}
theorem adoptTL_ok : ∀ {l : List AdT} {S S' : TS}, adoptTL S l = some S' → InvA w0 F0 Pb N S.x a w → InvA w0 F0 Pb N S'.x a w
  | [], S, S', h, hI => by simp only [adoptTL, Option.some.injEq] at h; subst h; exact hI
  | e :: l, S, S', h, hI => by
    simp only [adoptTL] at h
    split at h
    · rename_i S1 h1
      obtain ⟨h2, h3, F, A, h4⟩ := hI
      obtain ⟨A', h5⟩ := adopt_ok h4 (adoptT_ok h1)
      exact adoptTL_ok h ⟨h2, h3, F, A', h5⟩
    · cases h
theorem norm_ok {ns : NS} {S : TS} {v : ns.den} (h : normT ns S = some (true, v)) (hI : InvA w0 F0 Pb N S.x a w) : InvA w0 F0 Pb N (ns.mk' v).x a w := by
  unfold normT at h
  split at h
  · rename_i S1 h1
    have hI1 : InvA w0 F0 Pb N S1.x a w := by
      obtain ⟨h2, h3, F, A, h4⟩ := hI
      obtain ⟨F1, A1, h5, _⟩ := h4.freezeL (freezeTL_ok h1)
      exact ⟨h2, h3, F1, A1, h5⟩
    split at h
    · rename_i S2 h2
      have hI2 := adoptTL_ok h2 hI1
      have hI3 : InvA w0 F0 Pb N (dropIfT S2 fun g => !(ns.roots.map (·.1)).contains g).x a w := by
        obtain ⟨h2, h3, F, A, h4⟩ := hI2
        rw [← dropIfT_ok]
        exact ⟨h2, h3, F, _, h4.dropIf _⟩
      obtain ⟨e1, e2⟩ := unPairC_ok h
      refine hI3.less (fun n => unTs_ok _ e1 n) (fun g => ?_)
      have hr := unRs_ok _ e2 g
      by_cases hg : g ∈ ns.roots.map (·.1)
      · exact hr.1 hg
      · left
        have : (dropIfT S2 fun g => !(ns.roots.map (·.1)).contains g).r g = none := by
          have hc : (ns.roots.map (·.1)).contains g = false := by simpa using hg
          simp only [dropIfT, hc, Bool.not_false, if_true]
        have h3 := hr.2 hg
        show rX (mkRr ns.roots v.2) g = rX _ g
        rw [h3]
        simp only [rX, this, Option.map_none]
    · cases h
  · cases h
end
/-! ### loops -/
def OutD : List (Nat × NS) → Type → Type
  | [], ρ => ρ
  | p :: l, ρ => p.2.den ⊕ OutD l ρ
structure LI (ρ : Type) where
  hd : NS
  exs : List (Nat × NS)
  G : hd.den → Option (OutD exs ρ)
def exitOut {ρ R : Type} : (exs : List (Nat × NS)) → Nat → TS → (OutD exs ρ → Option R) → Option R
  | [], _, _, _ => none
  | p :: l, i, S, k => if i = p.1 then (match normT p.2 S with
    | some (c, v) => cond c (k (Sum.inl v)) none
    | none => none) else exitOut l i S fun o => k (Sum.inr o)
def retOut {ρ : Type} : (exs : List (Nat × NS)) → ρ → OutD exs ρ
  | [], r => r
  | _ :: l, r => Sum.inr (retOut l r)
def contOut {ρ R : Type} : (exs : List (Nat × NS)) → OutD exs ρ → (Ex → TS → Option R) → (ρ → Option R) → Option R
  | [], r, _, kr => kr r
  | p :: l, o, k, kr => match o with
    | .inl v => k (.exit p.1) (p.2.mk' v)
    | .inr o' => contOut l o' k kr
def loopN {σ O : Type} (step : (σ → Option O) → σ → Option O) : Nat → σ → Option O
  | 0 => fun _ => none
  | n + 1 => step (loopN step n)
def fuel : Nat := 18446744073709551616
section
variable {ρ : Type} (T : TT) (Y : Nat → Option Ty) (env : Env) (an : FuncId → An) (lenv : Nat → Option (LI ρ)) (fin : TS → Option (Bool × ρ))
def goOn {R : Type} (k : TS → Option R) (kx : Ex → TS → Option R) : Ex → TS → Option R
  | .go, S => k S
  | .exit i, S => kx (.exit i) S
  | .ret, S => kx .ret S
def inBlk {R : Type} (id : Nat) (k : Ex → TS → Option R) : Ex → TS → Option R
  | .exit j, S => if j = id then k .go S else k (.exit j) S
  | .go, S => k .go S
  | .ret, S => k .ret S
def evT {R : Type} : Code → TS → (Ex → TS → Option R) → (ρ → Option R) → Option R
  | .skip, S, k, _ => k .go S
  | .region id ops draw, S, k, _ => match freezeTL S (zapT an id S) with
    | some S' => runK T Y env an draw ops (match draw with | true => opsOf an ops | false => ops.toList) S' (k .go)
    | none => none
  | .seq a b, S, k, kr => evT a S (goOn (fun S' => evT b S' k kr) k) kr
  | .cond c a b, S, k, kr => match S.ev c with
    | .b v => cond v (evT a (refineT S c true) k kr) (evT b (refineT S c false) k kr)
    | _ => none
  | .block id b, S, k, kr => evT b S (inBlk id k) kr
  | .loop b, S, k, kr => match lenv (firstReg b) with
    | some li => match normT li.hd S with
      | some (c, v) => cond c (Option.bind (li.G v) fun o => contOut li.exs o k kr) none
      | none => none
    | none => none
  | .exit id, S, k, _ => k (.exit id) S
  | .label _, S, k, _ => k .go S
  | .ret, S, _, kr => match fin S with
    | some (c, v) => cond c (kr v) none
    | none => none
  | .scope b, S, k, kr => evT b S k kr
  | _, _, _, _ => none
/-- A loop's round; ih: the rounds behind it. -/
def stepEval (b : Code) (hd : NS) (exs : List (Nat × NS)) (ih : hd.den → Option (OutD exs ρ)) (v : hd.den) : Option (OutD exs ρ) :=
  evT T Y env an lenv fin b (hd.mk' v) (fun e S => match e with
    | .go => (match normT hd S with
      | some (c, v') => cond c (ih v') none
      | none => none)
    | .exit i => exitOut exs i S some
    | .ret => none) (fun r => some (retOut exs r))
def LoopsOk (c : Code) : Prop :=
  match c with
  | .seq a b => LoopsOk a ∧ LoopsOk b
  | .cond _ a b => LoopsOk a ∧ LoopsOk b
  | .block _ b => LoopsOk b
  | .scope b => LoopsOk b
  | .loop b => (∀ li, lenv (firstReg b) = some li → ∃ step, (∀ v, li.G v = loopN step fuel v) ∧ ∀ ih v, step ih v = stepEval T Y env an lenv fin b li.hd li.exs ih v) ∧ LoopsOk b
  | _ => True
end
section
variable {P : Program} {T : TT} {Y : Nat → Option Ty} {env : Env} {an : FuncId → An} {ρ : Type} {lenv : Nat → Option (LI ρ)} {fin : TS → Option (Bool × ρ)} {w0 : World} {F0 : Nat → Prop} {Pb : PB} {N : Nat}
/-- What a body comes to. -/
def PostK (w0 : World) (F0 : Nat → Prop) (Pb : PB) (N : Nat) (fin : TS → Option (Bool × ρ)) {R : Type} (k : Ex → TS → Option R) (kr : ρ → Option R) (x : R) (e' : Exit) (a : Act) (w : World) : Prop :=
  (∃ e S', e ≠ .ret ∧ e' = e.out ∧ InvA w0 F0 Pb N S'.x a w ∧ k e S' = some x) ∨ (e' = .ret ∧ ∃ S' v, InvA w0 F0 Pb N S'.x a w ∧ fin S' = some (true, v) ∧ kr v = some x)
def OutOk (w0 : World) (F0 : Nat → Prop) (Pb : PB) (N : Nat) (fin : TS → Option (Bool × ρ)) : (exs : List (Nat × NS)) → OutD exs ρ → Exit → Act → World → Prop
  | [], r, e', a, w => e' = .ret ∧ ∃ S', InvA w0 F0 Pb N S'.x a w ∧ fin S' = some (true, r)
  | p :: l, o, e', a, w => match o with
    | .inl v => e' = .exit p.1 ∧ InvA w0 F0 Pb N (p.2.mk' v).x a w
    | .inr o' => OutOk w0 F0 Pb N fin l o' e' a w
theorem outOk_exit {R : Type} : ∀ {exs : List (Nat × NS)} {i : Nat} {S : TS} {k : OutD exs ρ → Option R} {x : R} {a : Act} {w : World}, exitOut exs i S k = some x → InvA w0 F0 Pb N S.x a w → ∃ o, k o = some x ∧ OutOk w0 F0 Pb N fin exs o (.exit i) a w
  | [], i, S, k, x, a, w, h, hI => by simp [exitOut] at h
  | p :: l, i, S, k, x, a, w, h, hI => by
    simp only [exitOut] at h
    split at h
    · rename_i hi
      split at h
      · rename_i c v hn
        obtain ⟨rfl, h⟩ := cond_some h
        exact ⟨Sum.inl v, h, by rw [hi], norm_ok hn hI⟩
      · cases h
    · obtain ⟨o, h1, h2⟩ := outOk_exit (exs := l) h hI
      exact ⟨Sum.inr o, h1, h2⟩
theorem outOk_ret : ∀ {exs : List (Nat × NS)} {r : ρ} {S : TS} {a : Act} {w : World}, InvA w0 F0 Pb N S.x a w → fin S = some (true, r) → OutOk w0 F0 Pb N fin exs (retOut exs r) .ret a w
  | [], r, S, a, w, h, hf => ⟨rfl, S, h, hf⟩
  | p :: l, r, S, a, w, h, hf => outOk_ret (exs := l) h hf
theorem outOk_post {R : Type} {k : Ex → TS → Option R} {kr : ρ → Option R} {x : R} : ∀ {exs : List (Nat × NS)} {o : OutD exs ρ} {e' : Exit} {a : Act} {w : World}, contOut exs o k kr = some x → OutOk w0 F0 Pb N fin exs o e' a w → PostK w0 F0 Pb N fin k kr x e' a w
  | [], r, e', a, w, h, ⟨he, S', hI, hf⟩ => .inr ⟨he, S', r, hI, hf, h⟩
  | p :: l, .inl v, e', a, w, h, ⟨he, hI⟩ => .inl ⟨.exit p.1, _, by simp, he, hI, h⟩
  | p :: l, .inr o', e', a, w, h, ho => outOk_post (exs := l) h ho
theorem loop_ok {b : Code} {hd : NS} {exs : List (Nat × NS)} {step : (hd.den → Option (OutD exs ρ)) → hd.den → Option (OutD exs ρ)} (hst : ∀ ih v, step ih v = stepEval T Y env an lenv fin b hd exs ih v)
    (hb : ∀ {R : Type} {k : Ex → TS → Option R} {kr : ρ → Option R} {x : R} {S : TS}, evT T Y env an lenv fin b S k kr = some x → ∀ (a : Act) (w : World), InvA w0 F0 Pb N S.x a w → b.wp P (PostK w0 F0 Pb N fin k kr x) a w) :
    ∀ (n : Nat) (v : hd.den) (o : OutD exs ρ), loopN step n v = some o → ∀ (a : Act) (w : World), InvA w0 F0 Pb N (hd.mk' v).x a w → LoopWp P b (OutOk w0 F0 Pb N fin exs o) a w
  | 0, v, o, h, a, w, hI => by simp [loopN] at h
  | n + 1, v, o, h, a, w, hI => by
    simp only [loopN, hst, stepEval] at h
    refine loopWp_step (wp_mono (hb h a w hI) ?_)
    rintro e' a' w' (⟨e, S', he, rfl, hI', hk⟩ | ⟨rfl, S', r, hI', hf, hk⟩)
    · cases e with
      | go =>
        simp only at hk
        split at hk
        · rename_i c v' hn
          obtain ⟨rfl, hk⟩ := cond_some hk
          exact loop_ok hst hb n v' o hk a' w' (norm_ok hn hI')
        · cases hk
      | exit i =>
        obtain ⟨o', h1, h2⟩ := outOk_exit hk hI'
        cases h1
        exact h2
      | ret => exact absurd rfl he
    · cases hk
      exact outOk_ret hI' hf
theorem postK_go {R : Type} {k : Ex → TS → Option R} {kr : ρ → Option R} {x : R} {S : TS} {a : Act} {w : World} (h : k .go S = some x) (hI : InvA w0 F0 Pb N S.x a w) : PostK w0 F0 Pb N fin k kr x .normal a w := .inl ⟨.go, S, by simp, rfl, hI, h⟩
theorem evT_ok (hm : P.follows .mixedOrders = true) (hT : TOk P T) (hS : ShOk T) (hc : EnvOk P env) : ∀ (c : Code) {R : Type} {k : Ex → TS → Option R} {kr : ρ → Option R} {x : R} {S : TS}, chkC T an N c = true → LoopsOk T Y env an lenv fin c → evT T Y env an lenv fin c S k kr = some x → ∀ (a : Act) (w : World), InvA w0 F0 Pb N S.x a w → c.wp P (PostK w0 F0 Pb N fin k kr x) a w
  | .skip, R, k, kr, x, S, hk, hl, h, a, w, hI => by
    simp only [evT] at h
    exact wp_skip (postK_go h hI)
  | .region id ops draw, R, k, kr, x, S, hk, hl, h, a, w, hI => by
    simp only [evT] at h
    split at h
    rotate_left
    · cases h
    rename_i S0 hz
    replace hI : InvA w0 F0 Pb N S0.x a w := by
      obtain ⟨h2, h3, F, A, h4⟩ := hI
      obtain ⟨F1, A1, h5, _⟩ := h4.freezeL (freezeTL_ok hz)
      exact ⟨h2, h3, F1, A1, h5⟩
    obtain ⟨S1, hr, h1⟩ := runK_ok h
    simp only [chkC, Bool.and_eq_true] at hk
    have ho : ∀ o ∈ ops.toList, okDst N o = true := List.all_eq_true.1 hk.1
    cases draw with
    | false =>
      refine wp_region (runOps_ok (an := an) hT hS (callE_ok hc) (S' := S1.x) (fun a w hI => postK_go h1 hI) (List.range ops.size) (fun i hi => ?_) ?_ hI)
      · have hi' : i < ops.size := by simpa using hi
        exact ⟨ops[i], by simp [hi'], ho _ (by simp)⟩
      · rw [filterMap_range]; exact hr
    | true =>
      have hd : drawChk T an ops = true := by simpa using hk.2
      exact draw_ok hm hT hS (callE_ok hc) hd ho (by simpa [runX] using hr) (fun a w hI => postK_go h1 hI) hI id
  | .seq x y, R, k, kr, z, S, hk, hl, h, a, w, hI => by
    simp only [chkC, Bool.and_eq_true] at hk
    simp only [LoopsOk] at hl
    simp only [evT] at h
    refine wp_seq (wp_mono (evT_ok hm hT hS hc x hk.1 hl.1 h a w hI) ?_)
    rintro e' a' w' (⟨e, S', he, rfl, hI', hk'⟩ | ⟨rfl, S', v, hI', hf, hk'⟩)
    · cases e with
      | go => exact evT_ok hm hT hS hc y hk.2 hl.2 hk' a' w' hI'
      | exit i => exact .inl ⟨.exit i, S', he, rfl, hI', hk'⟩
      | ret => exact absurd rfl he
    · exact .inr ⟨rfl, S', v, hI', hf, hk'⟩
  | .cond c x y, R, k, kr, z, S, hk, hl, h, a, w, hI => by
    simp only [chkC, Bool.and_eq_true] at hk
    simp only [LoopsOk] at hl
    simp only [evT] at h
    split at h
    · rename_i v hv
      have hev : Rv w (Classical.choose hI.2.2) (Classical.choose (Classical.choose_spec hI.2.2)) (S.x.ev c) (a.eval c) := ev_ok (Classical.choose_spec (Classical.choose_spec hI.2.2)) (fun v => rfl) c
      rw [← ev_x, hv] at hev
      cases v with
      | true =>
        rw [refineT_eq hv] at h
        exact wp_cond_true (bool_of hev) (evT_ok hm hT hS hc x hk.1 hl.1 h a w hI)
      | false =>
        rw [refineT_eq hv] at h
        exact wp_cond_false (bool_of hev) (evT_ok hm hT hS hc y hk.2 hl.2 h a w hI)
    · cases h
  | .block id b, R, k, kr, z, S, hk, hl, h, a, w, hI => by
    simp only [chkC] at hk
    simp only [LoopsOk] at hl
    simp only [evT] at h
    refine wp_block (wp_mono (evT_ok hm hT hS hc b hk hl h a w hI) ?_)
    rintro e' a' w' (⟨e, S', he, rfl, hI', hk'⟩ | ⟨rfl, S', v, hI', hf, hk'⟩)
    · cases e with
      | go => exact postK_go hk' hI'
      | exit j =>
        simp only [inBlk] at hk'
        simp only [Ex.out, Exit.inBlock]
        split at hk'
        · rename_i hj
          rw [if_pos hj]; exact postK_go hk' hI'
        · rename_i hj
          rw [if_neg hj]; exact .inl ⟨.exit j, S', he, rfl, hI', hk'⟩
      | ret => exact absurd rfl he
    · exact .inr ⟨rfl, S', v, hI', hf, hk'⟩
  | .loop b, R, k, kr, z, S, hk, hl, h, a, w, hI => by
    simp only [chkC] at hk
    simp only [LoopsOk] at hl
    simp only [evT] at h
    split at h
    · rename_i li hli
      obtain ⟨step, h1, h2⟩ := hl.1 li hli
      split at h
      · rename_i c v hn
        obtain ⟨rfl, h⟩ := cond_some h
        obtain ⟨o, ho, h⟩ := bind_some h
        rw [h1] at ho
        refine wp_loop' ?_
        have := loop_ok (P := P) (w0 := w0) (F0 := F0) (Pb := Pb) (N := N) h2 (fun h a w hI => evT_ok hm hT hS hc b hk hl.2 h a w hI) fuel v o ho a w (norm_ok hn hI)
        intro fr ks cs
        obtain ⟨e, a', w', hq, harr⟩ := this fr ks cs
        exact ⟨e, a', w', outOk_post h hq, harr⟩
      · cases h
    · cases h
  | .exit id, R, k, kr, z, S, hk, hl, h, a, w, hI => by
    simp only [evT] at h
    exact wp_exit (.inl ⟨.exit id, S, by simp, rfl, hI, h⟩)
  | .label l, R, k, kr, z, S, hk, hl, h, a, w, hI => by
    simp only [evT] at h
    exact wp_label (postK_go h hI)
  | .ret, R, k, kr, z, S, hk, hl, h, a, w, hI => by
    simp only [evT] at h
    split at h
    · rename_i c v hf
      obtain ⟨rfl, h⟩ := cond_some h
      exact wp_ret (.inr ⟨rfl, S, v, hI, hf, h⟩)
    · cases h
  | .rangeFunc _ _ _ _, R, k, kr, z, S, hk, hl, h, a, w, hI => by simp [evT] at h
  | .scope b, R, k, kr, z, S, hk, hl, h, a, w, hI => by
    simp only [chkC] at hk
    simp only [LoopsOk] at hl
    simp only [evT] at h
    refine wp_scope_straight (wp_mono (evT_ok hm hT hS hc b hk hl h a w hI) ?_)
    rintro e' a' w' (⟨e, S', he, rfl, hI', hk'⟩ | ⟨rfl, S', v, hI', hf, hk'⟩)
    · cases e with
      | go => exact .inl ⟨.go, S', he, rfl, hI', hk'⟩
      | exit i => exact .inl ⟨.exit i, S', he, rfl, hI', hk'⟩
      | ret => exact absurd rfl he
    · exact .inr ⟨rfl, S', v, hI', hf, hk'⟩
  | .goto _, R, k, kr, z, S, hk, hl, h, a, w, hI => by simp [evT] at h
  | .refuse _, R, k, kr, z, S, hk, hl, h, a, w, hI => by simp [evT] at h
end
end Go.EV
