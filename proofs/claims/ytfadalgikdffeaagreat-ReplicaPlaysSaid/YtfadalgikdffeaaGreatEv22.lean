/- A function's answer out of its body's; the words by which a body is computed. -/
import Derived.Test.YtfadalgikdffeaaGreatEv21
set_option linter.unusedVariables false
set_option linter.unusedSimpArgs false
namespace Go.EV
open Go.RowKit
def finF (q : Option (List X)) : Option (X × List X) := q.map fun ys => (oneX ys, [])
theorem evF_body {T : TT} {an : FuncId → An} {nrm : FuncId → Nat → St → Option St} {fns : FuncId → Option Func} {k : Nat} {f : FuncId} {args : List X} {fn : Func} {c : Code} {S0 : St} (h1 : fns f = some fn) (h2 : fn.body = some c) (h3 : enter args = some S0) (h4 : (an f).sp = false) (h5 : hasIo (an f).md = false) :
    evF T an nrm fns (k + 1) f args = finF (outX T (an f).fr fn.results.toList (evC T (evF T an nrm fns k) an (nrm f) k c S0)) := by
  simp only [evF, h1, h2, h3, h4, Bool.false_eq_true, if_false, finF]
  cases hq : evC T (evF T an nrm fns k) an (nrm f) k c S0 with
  | none => rfl
  | some q =>
    obtain ⟨e, S⟩ := q
    cases e with
    | go => simp only [outX]; cases resX T S fn.results.toList <;> simp [leaveO, h5] <;> rfl
    | ret => simp only [outX]; cases resX T S fn.results.toList <;> simp [leaveO, h5] <;> rfl
    | exit j => rfl
theorem evF_sp {T : TT} {an : FuncId → An} {nrm : FuncId → Nat → St → Option St} {fns : FuncId → Option Func} {k : Nat} {f : FuncId} {args : List X} {fn : Func} {c : Code} {S0 : St} (h1 : fns f = some fn) (h2 : fn.body = some c) (h3 : enter args = some S0) (h4 : (an f).sp = true) :
    evF T an nrm fns (k + 1) f args = finF (evSp T (evF T an nrm fns k) an (nrm f) k (an f).fr fn.results.toList S0 c) := by
  simp only [evF, h1, h2, h3, h4, if_true, finF]
def LoopOk (I : Nat → St → Prop) (Q : Ex → St → Prop) (N j : Nat) : Option (Ex × St) → Prop
  | some (.go, S) => j < N ∧ I (j + 1) S
  | some (.ret, S) => Q .ret S
  | some (.exit i, S) => Q (.exit i) S
  | none => False
def loopStep (nrm : St → Option St) (body : St → Option (Ex × St)) (S : St) : Option (Ex × St) :=
  match nrm S with
  | some S1 => body S1
  | none => none
/-- A loop's rule: I at the head, in round j; Q behind it. -/
theorem iter_rule {nrm : St → Option St} {body : St → Option (Ex × St)} {N : Nat} (I : Nat → St → Prop) (Q : Ex → St → Prop) (hj : ∀ j S, I j S → j ≤ N) (hs : ∀ j S, I j S → LoopOk I Q N j (loopStep nrm body S)) :
    ∀ (m j : Nat) (S : St), I j S → N < m + j → ∀ q, iter nrm body m S = q → ∃ e S2, q = some (e, S2) ∧ Q e S2
  | 0, j, S, hI, hm, q, hq => by
    have := hj j S hI
    omega
  | m + 1, j, S, hI, hm, q, hq => by
    have h := hs j S hI
    unfold loopStep at h
    rw [iter] at hq
    cases hn : nrm S with
    | none => rw [hn] at h; exact h.elim
    | some S1 =>
      rw [hn] at h hq
      simp only at h hq
      cases hb : body S1 with
      | none => rw [hb] at h; exact h.elim
      | some p =>
        obtain ⟨e, S2⟩ := p
        rw [hb] at h hq
        cases e with
        | go => exact iter_rule I Q hj hs m (j + 1) S2 h.2 (by have := h.1; omega) q hq
        | ret => exact ⟨_, S2, hq.symm, h⟩
        | exit id => exact ⟨_, S2, hq.symm, h⟩
section
variable {T : TT} {call : FuncId → List X → Option (X × List X)} {an : FuncId → An} {nrm : Nat → St → Option St} {n : Nat} {S : St}
/-- A loop, not looked into. -/
def runLoop (T : TT) (call : FuncId → List X → Option (X × List X)) (an : FuncId → An) (nrm : Nat → St → Option St) (n : Nat) (b : Code) (S : St) : Option (Ex × St) := iter (nrm (firstReg b)) (evC T call an nrm n b) n S
theorem evC_skip : evC T call an nrm n .skip S = some (.go, S) := rfl
theorem evC_region {id : Nat} {ops : Array Oper} {d : Bool} : evC T call an nrm n (.region id ops d) S = (if d then runD T call an ops (opsOf an ops) S else runOps T call an ops ops.toList S).map fun S' => (.go, S') := rfl
def thenX (f : St → Option (Ex × St)) : Option (Ex × St) → Option (Ex × St)
  | some (.go, S') => f S'
  | r => r
theorem thenX_go {f : St → Option (Ex × St)} : thenX f (some (.go, S)) = f S := rfl
theorem thenX_ret {f : St → Option (Ex × St)} : thenX f (some (.ret, S)) = some (.ret, S) := rfl
theorem thenX_exit {f : St → Option (Ex × St)} {i : Nat} : thenX f (some (.exit i, S)) = some (.exit i, S) := rfl
theorem evC_seq {a b : Code} : evC T call an nrm n (.seq a b) S = thenX (evC T call an nrm n b) (evC T call an nrm n a S) := by
  simp only [evC]
  cases h : evC T call an nrm n a S with
  | none => rfl
  | some p => obtain ⟨e, S'⟩ := p; cases e <;> rfl
def condX (v : X) (a b : Option (Ex × St)) : Option (Ex × St) :=
  match v with
  | .b true => a
  | .b false => b
  | _ => none
theorem condX_t {a b : Option (Ex × St)} : condX (.b true) a b = a := rfl
theorem condX_f {a b : Option (Ex × St)} : condX (.b false) a b = b := rfl
theorem evC_cond {c : Operand} {a b : Code} : evC T call an nrm n (.cond c a b) S = condX (S.ev c) (evC T call an nrm n a S) (evC T call an nrm n b S) := rfl
def blockX (id : Nat) : Option (Ex × St) → Option (Ex × St)
  | some (.exit j, S') => if j = id then some (.go, S') else some (.exit j, S')
  | r => r
theorem blockX_go {id : Nat} : blockX id (some (.go, S)) = some (.go, S) := rfl
theorem blockX_ret {id : Nat} : blockX id (some (.ret, S)) = some (.ret, S) := rfl
theorem blockX_exit {id j : Nat} : blockX id (some (.exit j, S)) = if j = id then some (.go, S) else some (.exit j, S) := rfl
theorem evC_block {id : Nat} {b : Code} : evC T call an nrm n (.block id b) S = blockX id (evC T call an nrm n b S) := by
  simp only [evC]
  cases h : evC T call an nrm n b S with
  | none => rfl
  | some p => obtain ⟨e, S'⟩ := p; cases e <;> rfl
theorem evC_loop {b : Code} : evC T call an nrm n (.loop b) S = runLoop T call an nrm n b S := rfl
theorem evC_exit {id : Nat} : evC T call an nrm n (.exit id) S = some (.exit id, S) := rfl
theorem evC_ret : evC T call an nrm n .ret S = some (.ret, S) := rfl
end
theorem ty_st {T : TT} {n t s b : Nat} {z x : X} {fs : List Nat} (ht : T t = some ⟨.st fs, s, b, z⟩) (h : HasTy T (n + 1) t x) : ∃ xs, x = .ag xs ∧ xs.length = fs.length ∧ ∀ (j : Nat) f y, fs[j]? = some f → xs[j]? = some y → HasTy T n f y := by
  unfold HasTy at h; rw [ht] at h; exact h
theorem ty_sl {T : TT} {n t s b e : Nat} {z x : X} (ht : T t = some ⟨.sl e, s, b, z⟩) (h : HasTy T (n + 1) t x) : ∃ xs, x = .sl false xs ∧ xs.length ≤ maxLen ∧ ∀ y ∈ xs, HasTy T n e y := by
  unfold HasTy at h; rw [ht] at h; exact h
theorem ty_int {T : TT} {n t s b : Nat} {k : IntKind} {z x : X} (ht : T t = some ⟨.int k, s, b, z⟩) (h : HasTy T (n + 1) t x) : ∃ m, x = .i k m ∧ (Lit.int k m).wf = true := by
  unfold HasTy at h; rw [ht] at h; exact h
theorem ty_bool {T : TT} {n t s b : Nat} {z x : X} (ht : T t = some ⟨.bool, s, b, z⟩) (h : HasTy T (n + 1) t x) : ∃ v, x = .b v := by
  unfold HasTy at h; rw [ht] at h; exact h
theorem ty_str {T : TT} {n t s b : Nat} {z x : X} (ht : T t = some ⟨.str, s, b, z⟩) (h : HasTy T (n + 1) t x) : ∃ l, x = .s l ∧ l.length ≤ maxLen := by
  unfold HasTy at h; rw [ht] at h; exact h
def loopsOf : Code → List Code
  | .seq a b => loopsOf a ++ loopsOf b
  | .cond _ a b => loopsOf a ++ loopsOf b
  | .block _ b => loopsOf b
  | .scope b => loopsOf b
  | .loop b => b :: loopsOf b
  | _ => []
def loopOf (f : Func) (n : Nat) : Code := ((f.body.map loopsOf).getD []).getD n .skip
end Go.EV
