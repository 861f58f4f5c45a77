/- Words for the printed functions: tables of functions, of loops. -/
import Derived.Test.YtfadalgikdffeaaGreatTv12
import Derived.Test.YtfadalgikdffeaaGreatEv22
set_option linter.unusedVariables false
set_option linter.unusedSimpArgs false
namespace Go.EV
open Go.RowKit
def mkEnv (l : List (Nat × FI)) : Env := fun f => l.lookup f
theorem envNil {P : Program} : EnvOk P (mkEnv []) := fun f inf h => by simp [mkEnv] at h
theorem envCons {P : Program} {f : Nat} {inf : FI} {l : List (Nat × FI)} (h : FnOk P f inf) (hl : EnvOk P (mkEnv l)) : EnvOk P (mkEnv ((f, inf) :: l)) := by
  intro g i hg
  simp only [mkEnv, List.lookup_cons] at hg
  split at hg
  · rename_i e
    simp only [beq_iff_eq] at e
    subst e
    cases hg
    exact h
  · exact hl g i hg
section
variable {ρ : Type} {T : TT} {Y : Nat → Option Ty} {env : Env} {an : FuncId → An} {lenv : Nat → Option (LI ρ)} {fin : TS → Option (Bool × ρ)}
def Loop1 (T : TT) (Y : Nat → Option Ty) (env : Env) (an : FuncId → An) (lenv : Nat → Option (LI ρ)) (fin : TS → Option (Bool × ρ)) (b : Code) : Prop :=
  ∀ li, lenv (firstReg b) = some li → ∃ step, (∀ v, li.G v = loopN step fuel v) ∧ ∀ ih v, step ih v = stepEval T Y env an lenv fin b li.hd li.exs ih v
def LoopsL (T : TT) (Y : Nat → Option Ty) (env : Env) (an : FuncId → An) (lenv : Nat → Option (LI ρ)) (fin : TS → Option (Bool × ρ)) : List Code → Prop
  | [] => True
  | b :: l => Loop1 T Y env an lenv fin b ∧ LoopsL T Y env an lenv fin l
theorem loopsL_app {l m : List Code} (h : LoopsL T Y env an lenv fin (l ++ m)) : LoopsL T Y env an lenv fin l ∧ LoopsL T Y env an lenv fin m := by
  induction l with
  | nil => exact ⟨trivial, h⟩
  | cons b l ih => exact ⟨⟨h.1, (ih h.2).1⟩, (ih h.2).2⟩
theorem loopsOk_of : ∀ {c : Code}, LoopsL T Y env an lenv fin (loopsOf c) → LoopsOk T Y env an lenv fin c
  | .seq a b, h => by
    simp only [loopsOf] at h
    simp only [LoopsOk]
    exact ⟨loopsOk_of (loopsL_app h).1, loopsOk_of (loopsL_app h).2⟩
  | .cond _ a b, h => by
    simp only [loopsOf] at h
    simp only [LoopsOk]
    exact ⟨loopsOk_of (loopsL_app h).1, loopsOk_of (loopsL_app h).2⟩
  | .block _ b, h => by
    simp only [loopsOf] at h
    simp only [LoopsOk]
    exact loopsOk_of h
  | .scope b, h => by
    simp only [loopsOf] at h
    simp only [LoopsOk]
    exact loopsOk_of h
  | .loop b, h => by
    simp only [loopsOf] at h
    simp only [LoopsOk]
    exact ⟨h.1, loopsOk_of h.2⟩
  | .skip, h | .region _ _ _, h | .exit _, h | .label _, h | .ret, h | .rangeFunc _ _ _ _, h | .goto _, h | .refuse _, h => by simp [LoopsOk]
theorem loop1 {b : Code} {li : LI ρ} {step : (li.hd.den → Option (OutD li.exs ρ)) → li.hd.den → Option (OutD li.exs ρ)} (h : lenv (firstReg b) = some li) (hG : li.G = loopN step fuel) (hs : step = stepEval T Y env an lenv fin b li.hd li.exs) : Loop1 T Y env an lenv fin b := by
  intro l hl
  rw [h] at hl
  cases hl
  exact ⟨step, fun v => by rw [hG], fun ih v => by rw [hs]⟩
end
/-- The n-th loop of a function. -/
def loopAt (c : Code) (n : Nat) : Code := (loopsOf c).getD n .skip
/-- A loop ends: what each round comes to. -/
theorem loopN_le {σ O : Type} {step : (σ → Option O) → σ → Option O} {I : σ → Prop} {m : σ → Nat} {Q : σ → O → Prop}
    (h : ∀ ih v, I v → (∀ v', I v' → m v' < m v → ∃ o, ih v' = some o ∧ Q v' o) → ∃ o, step ih v = some o ∧ Q v o) : ∀ (n : Nat) (v : σ), I v → m v < n → ∃ o, loopN step n v = some o ∧ Q v o
  | 0, v, _, hm => by omega
  | n + 1, v, hI, hm => h _ v hI fun v' hI' hlt => loopN_le h n v' hI' (by omega)
theorem fuel_eq : fuel = 18446744073709551616 := rfl
/-- .. to a value that is told ahead. -/
theorem loop_val {σ O : Type} {step : (σ → Option O) → σ → Option O} {I : σ → Prop} (m : σ → Nat) (f : σ → O)
    (h : ∀ ih v, I v → (∀ v', I v' → m v' < m v → ih v' = some (f v')) → step ih v = some (f v)) {v : σ} (hI : I v) (hm : m v < 18446744073709551616) : loopN step fuel v = some (f v) := by
  obtain ⟨o, h1, rfl⟩ := loopN_le (I := I) (m := m) (Q := fun v o => o = f v) (fun ih v hI hh => ⟨_, h ih v hI (fun v' hI' hlt => by obtain ⟨o, h1, rfl⟩ := hh v' hI' hlt; exact h1), rfl⟩) fuel v hI (by rw [fuel_eq]; exact hm)
  exact h1
end Go.EV
