/- A function on typed values is one of the program's; what comes in from outside has its type. -/
import Derived.Test.YtfadalgikdffeaaGreatTv11
import Derived.Test.YtfadalgikdffeaaGreatEv21
set_option linter.unusedVariables false
set_option linter.unusedSimpArgs false
namespace Go.EV
open Go.RowKit
def endK {ρ : Type} (fin : TS → Option (Bool × ρ)) : Ex → TS → Option ρ
  | .go, S => match fin S with
    | some (c, v) => cond c (some v) none
    | none => none
  | .exit _, _ => none
  | .ret, _ => none
/-- What a function computes. -/
def fnEval (T : TT) (Y : Nat → Option Ty) (env : Env) (an : FuncId → An) (ps : List PSh) (rs : RSh) (fr : Bool) (res : List ResultVar) (lenv : Nat → Option (LI (pairD rs (osOf ps)))) (c : Code) (a : pden ps) : Option (pairD rs (osOf ps)) :=
  match entryT ps a with
  | some S => evT T Y env an lenv (finO T fr ps rs res) c S (endK (finO T fr ps rs res)) some
  | none => none
theorem roVL_len {w : World} {F : Nat → Prop} : ∀ {xs : List X} {vs : List Value} {bs : List Nat}, RoVL w F xs vs bs → vs.length = xs.length
  | [], vs, bs, h => by simp only [RoVL] at h; simp [h.1]
  | x :: xs, vs, bs, h => by
    simp only [RoVL] at h
    obtain ⟨v, vs', cs, b1, b2, rfl, rfl, _, _, h2⟩ := h
    simp [roVL_len h2]
theorem fn_ok {P : Program} {T : TT} {Y : Nat → Option Ty} {env : Env} {an : FuncId → An} (hm : P.follows .mixedOrders = true) (hT : TOk P T) (hS : ShOk T) (hc : EnvOk P env) {f : FuncId} {fn : Func} (hfn : P.funcs[f]? = some fn) {c : Code} (hcb : fn.body = some c) (hchk : fnChk P T an f = true)
    {inf : FI} {fr : Bool} {lenv : Nat → Option (LI (pairD inf.rs (osOf inf.ps)))} (hl : LoopsOk T Y env an lenv (finO T fr inf.ps inf.rs fn.results.toList) c) (hG : ∀ a, inf.G a = fnEval T Y env an inf.ps inf.rs fr fn.results.toList lenv c a) : FnOk P f inf := by
  intro a v hv w F vs bi hvs hnd hbi hF
  unfold fnChk at hchk
  rw [hfn] at hchk
  simp only [Bool.and_eq_true, hcb, Option.any_some] at hchk
  refine ⟨by rw [hfn]; simp [hcb]; simpa using hchk.2, ?_⟩
  rw [hG] at hv
  unfold fnEval at hv
  split at hv
  · rename_i S0 hS0'
    have hS0 := entryT_x hS0'
    obtain ⟨AE, hI0, hE⟩ := enter_ok hvs hnd hbi hF hS0 fn.ntmps
    have hN : fn.ntmps ≤ (vs.toArray ++ Array.replicate (fn.ntmps - vs.toArray.size) undef).size := by simp; omega
    have hwp := evT_ok hm hT hS hc c (chkC_mono hN hchk.1) hl hv _ w hI0
    have hw2 : c.wp P (fun e' a' w' => ∃ e S xs q, (e = .go ∨ e = .ret) ∧ resX T S fn.results.toList = some xs ∧ leaveO { md := mdL inf.ps, fr := fr } (mkP inf.ps a) S xs = some q ∧ (OneLe (oneX q.1) (embR inf.rs (pairD.fst _ v)) ∧ ((hasIo (mdL inf.ps) = true ∧ OutLe q.2 (outEmb inf.ps (pairD.snd _ v))) ∨ (hasIo (mdL inf.ps) = false ∧ q.2 = []))) ∧ Post w F ⟨fun b => b ∈ bi, fun g ra => AE g = some ra⟩ (vs.toArray ++ Array.replicate (fn.ntmps - vs.toArray.size) undef).size e S e' a' w') { tmps := vs.toArray ++ Array.replicate (fn.ntmps - vs.toArray.size) undef, defers := [] } w := by
      refine wp_mono hwp ?_
      rintro e' a' w' (⟨e, S', he, rfl, hI', hk⟩ | ⟨rfl, S', u, hI', hf, hk⟩)
      · cases e with
        | go =>
          simp only [endK] at hk
          split at hk
          · rename_i p u hu
            obtain ⟨rfl, hk⟩ := cond_some hk
            cases hk
            obtain ⟨xs, q, h1, h2, h3, h4⟩ := finO_ok hu a
            exact ⟨.go, S'.x, xs, q, .inl rfl, h1, h2, ⟨h3, h4⟩, rfl, hI'⟩
          · cases hk
        | exit i => simp [endK] at hk
        | ret => exact absurd rfl he
      · cases hk
        obtain ⟨xs, q, h1, h2, h3, h4⟩ := finO_ok hf a
        exact ⟨.ret, S'.x, xs, q, .inr rfl, h1, h2, ⟨h3, h4⟩, rfl, hI'⟩
    refine (calls_fin hT hfn hcb hE hw2).mono ?_
    rintro e w' ⟨q, ⟨hle, hout⟩, u, rfl, F', bs, bo, h2, h3, h4, h5, h6, h7⟩
    have h4' : RoB w' F' (outEmb inf.ps (pairD.snd _ v)) vs bo := by
      rcases hout with ⟨_, ho⟩ | ⟨hio, hq⟩
      · exact roB_le ho h4
      · rw [hq] at h4
        simp only [RoB] at h4
        subst h4
        exact roB_bots (outEmb_bots _ hio) (by rw [outEmb_len, roVL_len hvs, mkP_len])
    exact ⟨u, rfl, F', bs, bo, h2, hle _ _ _ _ h3, h4', h5, h6, h7⟩
  · cases hv
/-- A row's law. -/
theorem law_callsT {P : Program} {f : FuncId} {inf : FI} {a : pden inf.ps} {v : pairD inf.rs (osOf inf.ps)} {W : World} {vs : List Value} (h : FnOk P f inf) (hv : inf.G a = some v) (hb : embR inf.rs (pairD.fst _ v) = .b true) (hA : All2 (fun y u => ∃ cs, Rf W (fun b => b < W.heap.size) y cs ∧ u = val y cs) (mkP inf.ps a) vs) :
    Calls P f vs.toArray W fun e W' => e = .returned (.bool true) ∧ Below W.heap.size W W' := by
  obtain ⟨_, h1⟩ := h a v hv W _ vs [] (leaveF_ok hA).1 .nil (by simp) (fun b hb => hb)
  refine h1.mono ?_
  rintro e W' ⟨u, rfl, F', bs, bo, hbl, hr, _⟩
  rw [hb] at hr
  obtain ⟨cs, hr, rfl⟩ := hr
  simp only [Ro, Rf] at hr
  obtain ⟨_, rfl⟩ := hr
  exact ⟨rfl, hbl.below⟩
mutual
/-- Does a type of the program read so? -/
def tyChk (T : TT) : Nat → Nat → Ty → Bool
  | 0, _, _ => false
  | n + 1, t, τ => match T t with
    | some { td := .bool, .. } => τ == .b
    | some { td := .int k, .. } => τ == .i k
    | some { td := .str, .. } => τ == .s
    | some { td := .sl e, .. } => (match τ with
      | .sl .u8 => (match T e with
        | some { td := .int .u8, .. } => 0 < n
        | _ => false)
      | .sl σ => tyChk T n e σ
      | _ => false)
    | some { td := .st fs, .. } => (match τ with
      | .st c => tyChkC T n fs c
      | _ => false)
    | _ => false
def tyChkC (T : TT) : Nat → List Nat → Ty → Bool
  | 0, _, _ => false
  | _, [], _ => false
  | n + 1, [t], c => tyChk T n t c && (match c with
    | .pr _ _ => false
    | _ => true)
  | n + 1, t :: t' :: fs, c => match c with
    | .pr a c => tyChk T n t a && tyChkC T n (t' :: fs) c
    | _ => false
end
/-- In range. -/
def Bd : (τ : Ty) → τ.den → Prop
  | .b, _ => True
  | .i k, n => (Lit.int k n).wf = true
  | .u8, _ => True
  | .s, l => List.length (α := UInt8) l ≤ maxLen
  | .st c, v => Bd c v
  | .pr a c, v => Bd a v.1 ∧ Bd c v.2
  | .sl e, l => List.length l ≤ maxLen ∧ ∀ y ∈ (show List e.den from l), Bd e y
theorem all_of {T : TT} {n e : Nat} {σ : Ty} (h : ∀ x, HasTy T n e x → ∃ v : σ.den, x = embX σ v ∧ Bd σ v) : ∀ xs : List X, (∀ y ∈ xs, HasTy T n e y) → ∃ vs : List σ.den, xs = vs.map (embX σ) ∧ vs.length = xs.length ∧ ∀ y ∈ vs, Bd σ y
  | [], _ => ⟨[], rfl, rfl, by simp⟩
  | x :: xs, hx => by
    obtain ⟨v, rfl, hb⟩ := h x (hx x (by simp))
    obtain ⟨vs, rfl, hl, hbs⟩ := all_of h xs (fun y hy => hx y (by simp [hy]))
    refine ⟨v :: vs, rfl, by simp, fun y hy => ?_⟩
    rcases List.mem_cons.1 hy with rfl | hy
    · exact hb
    · exact hbs y hy
theorem hasTy_mono {T : TT} : ∀ {n m t : Nat} {x : X}, HasTy T n t x → n ≤ m → HasTy T m t x
  | 0, m, t, x, h, _ => by simp [HasTy] at h
  | n + 1, 0, t, x, h, hm => by omega
  | n + 1, m + 1, t, x, h, hm => by
    unfold HasTy at h ⊢
    split at h
    · exact h
    · exact h
    · exact h
    · obtain ⟨xs, h1, h2, h3⟩ := h
      exact ⟨xs, h1, h2, fun y hy => hasTy_mono (h3 y hy) (by omega)⟩
    · obtain ⟨xs, h1, h2, h3⟩ := h
      exact ⟨xs, h1, h2, fun j f y hf hy => hasTy_mono (h3 j f y hf hy) (by omega)⟩
    · exact h
mutual
theorem typed {T : TT} : ∀ (n t : Nat) (τ : Ty) (m : Nat) (x : X), tyChk T n t τ = true → HasTy T m t x → ∃ v : τ.den, x = embX τ v ∧ Bd τ v
  | 0, t, τ, m, x, h, hx => by simp [tyChk] at h
  | n + 1, t, τ, 0, x, h, hx => by simp [HasTy] at hx
  | n + 1, t, τ, m + 1, x, h, hx => by
    unfold HasTy at hx
    simp only [tyChk] at h
    cases hT : T t with
    | none => rw [hT] at h; simp at h
    | some ti =>
      rw [hT] at h hx
      obtain ⟨td, s, b, z⟩ := ti
      cases td with
      | bool =>
        simp only [beq_iff_eq] at h hx
        subst h
        obtain ⟨v, rfl⟩ := hx
        exact ⟨v, rfl, trivial⟩
      | int k =>
        simp only [beq_iff_eq] at h hx
        subst h
        obtain ⟨v, rfl, hw⟩ := hx
        exact ⟨v, rfl, hw⟩
      | str =>
        simp only [beq_iff_eq] at h hx
        subst h
        obtain ⟨v, rfl, hw⟩ := hx
        exact ⟨v, rfl, hw⟩
      | sl e =>
        simp only at h hx
        obtain ⟨xs, rfl, hlen, hall⟩ := hx
        cases τ with
        | sl σ =>
          by_cases hσ : σ = .u8
          · subst hσ
            simp only at h
            cases hTe : T e with
            | none => rw [hTe] at h; simp at h
            | some ei =>
              rw [hTe] at h
              obtain ⟨tde, se, be, ze⟩ := ei
              have he : tde = .int .u8 := by
                split at h
                · rename_i heq
                  simp only [Option.some.injEq, TI.mk.injEq] at heq
                  exact heq.1
                · cases h
              subst he
              have key : ∀ y, HasTy T m e y → ∃ v : Ty.u8.den, y = embX .u8 v ∧ Bd .u8 v := by
                intro y hy
                cases m with
                | zero => simp [HasTy] at hy
                | succ m =>
                  unfold HasTy at hy
                  rw [hTe] at hy
                  obtain ⟨k, rfl, hw⟩ := hy
                  refine ⟨UInt8.ofNat k.toNat, ?_, trivial⟩
                  simp only [Lit.wf, Bool.and_eq_true, decide_eq_true_eq] at hw
                  have h0 : 0 ≤ k ∧ k ≤ 255 := by
                    have h1 := hw.1
                    have h2 := hw.2
                    constructor
                    · simpa [IntKind.min, IntKind.signed] using h1
                    · simpa [IntKind.max, IntKind.signed, IntKind.bits] using h2
                  show X.i .u8 k = X.i .u8 _
                  congr 1
                  exact u8_ok (by simpa using h0)
              obtain ⟨vs, rfl, hl, hb⟩ := all_of key xs hall
              exact ⟨vs, rfl, by show List.length vs ≤ maxLen; omega, fun y hy => trivial⟩
          · have h' : tyChk T n e σ = true := by
              cases σ <;> first | exact h | exact absurd rfl hσ
            obtain ⟨vs, rfl, hl, hb⟩ := all_of (fun y hy => typed n e σ m y h' hy) xs hall
            exact ⟨vs, rfl, by show List.length vs ≤ maxLen; omega, hb⟩
        | _ => simp at h
      | st fs =>
        simp only at h hx
        obtain ⟨xs, rfl, hlen, hall⟩ := hx
        cases τ with
        | st c =>
          simp only at h
          obtain ⟨v, hv, hb⟩ := typedC n fs c m xs h hlen hall
          exact ⟨v, by rw [hv]; rfl, hb⟩
        | _ => simp at h
      | arr _ _ => simp at h
      | pt _ => simp at h
      | oth => simp at h
theorem typedC {T : TT} : ∀ (n : Nat) (fs : List Nat) (τ : Ty) (m : Nat) (xs : List X), tyChkC T n fs τ = true → xs.length = fs.length → (∀ (j : Nat) f y, fs[j]? = some f → xs[j]? = some y → HasTy T m f y) → ∃ v : τ.den, xs = embXC τ v ∧ Bd τ v
  | 0, fs, τ, m, xs, h, hl, hx => by cases fs <;> simp [tyChkC] at h
  | n + 1, [], τ, m, xs, h, hl, hx => by simp [tyChkC] at h
  | n + 1, [t], τ, m, xs, h, hl, hx => by
    simp only [tyChkC, Bool.and_eq_true] at h
    match xs, hl with
    | [x], _ =>
      obtain ⟨v, rfl, hb⟩ := typed n t τ m x h.1 (hx 0 t x rfl rfl)
      refine ⟨v, ?_, hb⟩
      cases τ <;> first | rfl | (have := h.2; simp at this)
  | n + 1, t :: t' :: fs, τ, m, xs, h, hl, hx => by
    simp only [tyChkC] at h
    cases τ with
    | pr a c =>
      simp only [Bool.and_eq_true] at h
      match xs, hl with
      | x :: xs, hl =>
        obtain ⟨v, rfl, hb⟩ := typed n t a m x h.1 (hx 0 t x rfl rfl)
        obtain ⟨u, rfl, hb'⟩ := typedC n (t' :: fs) c m xs h.2 (by simpa using hl) (fun j f y hf hy => hx (j + 1) f y (by simpa using hf) (by simpa using hy))
        exact ⟨(v, u), rfl, hb, hb'⟩
    | _ => simp at h
end
end Go.EV
