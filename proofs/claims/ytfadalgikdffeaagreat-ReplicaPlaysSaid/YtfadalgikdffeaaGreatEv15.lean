/- One operation after the other; a body; a function. -/
import Derived.Test.YtfadalgikdffeaaGreatEvG
set_option linter.unusedVariables false
set_option linter.unusedSimpArgs false
namespace Go.EV
open Go.RowKit
section
variable {P : Program} {T : TT} {w0 : World} {F0 : Nat → Prop} {Pb : PB} {N : Nat} {S : St} {w : World} {call : FuncId → List X → Option (X × List X)} {an : FuncId → An}
def tmOf (a : Act) : Nat → Value := fun v => a.tmps.getD v undef
/-- A state, and where the machine stands. -/
def InvA (w0 : World) (F0 : Nat → Prop) (Pb : PB) (N : Nat) (S : St) (a : Act) (w : World) : Prop := a.defers = [] ∧ a.tmps.size = N ∧ ∃ F A, Inv w0 F0 Pb F A S (tmOf a) w
theorem tm_put {a : Act} {d : Nat} {v : Value} (h : d < a.tmps.size) : tmOf (a.put (some d) v) = upd (tmOf a) d v := by
  funext u
  simp only [tmOf, Act.put, upd]
  by_cases e : u = d
  · subst e; simp [h]
  · simp [e, Ne.symm e, Array.getElem?_setIfInBounds]
theorem put_ok {F : Nat → Prop} {A : Nat → Option RA} {a : Act} {dst : Option Nat} {x : X} {v : Value} (h : Inv w0 F0 Pb F A S (tmOf a) w) (hv : Rv w F A x v) (hd : a.defers = []) (hs : a.tmps.size = N) (hdst : ∀ d, dst = some d → d < N) : InvA w0 F0 Pb N (put S dst x) (a.put dst v) w := by
  cases dst with
  | none => exact ⟨hd, hs, F, A, h⟩
  | some d =>
    refine ⟨by simpa [Act.put] using hd, by simpa [Act.put] using hs, F, A, ?_⟩
    rw [tm_put (by rw [hs]; exact hdst d rfl)]
    exact h.set hv
theorem opStep_ok (hT : TOk P T) (hS : ShOk T) (hc : CallOk P call) {o : Oper} (hdst : ∀ d, o.dst = some d → d < N) {S' : St} (hs : opStep T call an S o = some S') {a : Act} (h : InvA w0 F0 Pb N S a w) (Q : Exit → Act → World → Prop) :
    o.wp P a w (fun a' w' => InvA w0 F0 Pb N S' a' w') Q := by
  obtain ⟨hd, hsz, F, A, hI⟩ := h
  have hev := ev_ok hI (a := a) (fun v => rfl)
  unfold opStep at hs
  split at hs
  · rename_i he
    split at hs
    · rename_i x S1 hx
      cases hs
      have key : EOk P w0 F0 Pb S1 (tmOf a) w o a x := by
        cases hop : o.op <;> rw [hop] at he <;> simp only [isEff, Bool.false_eq_true] at he
        case store t y z =>
          rw [hop] at hx
          simp only [eff, Op.operands, List.map_cons, List.map_nil] at hx
          exact storeX_ok hT hI hev hop hx
        case call c =>
          rw [hop] at hx
          simp only [eff, Op.operands] at hx
          split at hx
          · rename_i hcal
            have hco : c.operands = c.args := by simp [Call.operands, hcal]
            rw [hco] at hx
            match hcs : c.args.toList with
            | [] => rw [hcs] at hx; simp at hx
            | [_] => rw [hcs] at hx; simp at hx
            | [y, z] =>
              rw [hcs] at hx
              simp only [List.map_cons, List.map_nil] at hx
              exact appendX_ok hT hI hev hop hcal (by apply Array.ext'; simpa using hcs) hx
            | _ :: _ :: _ :: _ => rw [hcs] at hx; simp at hx
          · rename_i hcal
            have hco : c.operands = c.args := by simp [Call.operands, hcal]
            rw [hco] at hx
            match hcs : c.args.toList with
            | [] => rw [hcs] at hx; simp at hx
            | [_] => rw [hcs] at hx; simp at hx
            | [y, z] =>
              rw [hcs] at hx
              simp only [List.map_cons, List.map_nil] at hx
              exact copyX_ok hT hI hev hop hcal (by apply Array.ext'; simpa using hcs) hx
            | _ :: _ :: _ :: _ => rw [hcs] at hx; simp at hx
          · rename_i hcal
            have hco : c.operands = c.args := by simp [Call.operands, hcal]
            rw [hco] at hx
            match hcs : c.args.toList with
            | [] => rw [hcs] at hx; simp at hx
            | [y] =>
              rw [hcs] at hx
              simp only [List.map_cons, List.map_nil] at hx
              exact wipeX_ok hT hI hev hop hcal (by apply Array.ext'; simpa using hcs) hx
            | _ :: _ :: _ => rw [hcs] at hx; simp at hx
          · rename_i f hcal
            have hco : c.operands.toList = .func f :: c.args.toList := by simp [Call.operands, hcal]
            simp only [hco, List.map_cons, List.tail_cons] at hx
            refine callEff_ok hc hI (all2_map (a := a) hev c.args.toList) ?_ hx
            have e : c.args.map a.eval = (c.args.toList.map a.eval).toArray := by apply Array.ext'; simp
            have e2 : Act.eval a (.func f) = .func (.func f) #[] #[] := rfl
            simp only [execOp, hop, resolve, hcal, Deferred.ofValue, e2, invoke, e, Sem.run_bind, Sem.run_pure, Result.andThen_ok]
            simp
          · cases hx
      exact key _ Q fun v w' F' A' hI' hv => put_ok hI' hv hd hsz hdst
    · cases hs
  · rename_i he
    split at hs
    · rename_i x news fl hq
      split at hs
      · rename_i S1 h1
        split at hs
        · rename_i r' h2
          cases hs
          have key : QOk P w0 F0 Pb S (tmOf a) w o a x news fl := by
            cases hop : o.op
            case alloc => exact new_ok hT hS hI hev hq (by rw [hop]; trivial)
            case box => exact new_ok hT hS hI hev hq (by rw [hop]; trivial)
            case buildSlice => exact new_ok hT hS hI hev hq (by rw [hop]; trivial)
            case makeSlice => exact new_ok hT hS hI hev hq (by rw [hop]; trivial)
            case convert src t y =>
              by_cases hsl : ∃ e, tdOf T t = some (.sl e)
              · exact new_ok hT hS hI hev hq (by rw [hop]; exact hsl)
              · exact plain_ok hT hS hI hev hq (by rw [hop]; exact fun e he => hsl ⟨e, he⟩)
            case call c =>
              cases hcal : c.callee with
              | builtin b =>
                cases b with
                | len => exact plain_ok hT hS hI hev hq (by rw [hop]; exact .inl hcal)
                | min => exact plain_ok hT hS hI hev hq (by rw [hop]; exact .inr (.inl hcal))
                | max => exact plain_ok hT hS hI hev hq (by rw [hop]; exact .inr (.inr hcal))
                | _ => rw [hop] at hq; simp only [opq, hcal] at hq; cases hq
              | invoke r m => rw [hop] at hq; simp only [opq, hcal] at hq; cases hq
              | value f =>
                cases f with
                | func f =>
                  rw [hop] at hq
                  simp only [opq, hcal] at hq
                  have hco : c.operands.toList = .func f :: c.args.toList := by simp [Call.operands, hcal]
                  simp only [Op.operands, hco, List.map_cons, List.tail_cons] at hq
                  exact call_ok hc hI hev hop hcal hq
                | tmp t =>
                  rw [hop] at hq
                  simp only [opq, hcal] at hq
                  have hco : c.operands.toList = .tmp t :: c.args.toList := by simp [Call.operands, hcal]
                  simp only [Op.operands, hco, List.map_cons] at hq
                  split at hq
                  · rename_i f cap args hxs
                    simp only [List.cons.injEq] at hxs
                    obtain ⟨hS1, rfl⟩ := hxs
                    exact closure_ok hc hI hev hop hcal hS1 hq
                  · cases hq
                | const v => rw [hop] at hq; simp only [opq, hcal] at hq; cases hq
                | global g => rw [hop] at hq; simp only [opq, hcal] at hq; cases hq
            all_goals exact plain_ok hT hS hI hev hq (by rw [hop]; trivial)
          exact key S1 r' h1 h2 _ Q fun v w' F' A' hI' hv => put_ok hI' hv hd hsz hdst
        · cases hs
      · cases hs
    · cases hs
theorem wantedX_ok {ops : Array Oper} {o : Oper} {a : Act} (h : InvA w0 F0 Pb N S a w) {b : Bool} (hw : wantedX ops S o = some b) : Region.wanted o (yielded ops a.tmps) = b := by
  obtain ⟨hd, hsz, F, A, hI⟩ := h
  unfold wantedX at hw
  unfold Region.wanted
  split at hw
  · rename_i hg; cases hw; rw [hg]
  · rename_i j want hg
    split at hw
    · rename_i d hj
      split at hw
      · rename_i v hv
        cases hw
        have := hI.tv d
        rw [hv] at this
        have := bool_of this
        simp only [tmOf, Array.getD_eq_getD_getElem?] at this
        cases hq : a.tmps[d]? with
        | none => rw [hq] at this; simp [undef] at this
        | some u =>
          rw [hq] at this
          simp only [Option.getD_some] at this
          subst this
          simp [hg, yielded, hj, hq]
      · rename_i hv
        cases hw
        have := hI.tv d
        rw [hv] at this
        obtain ⟨vs, h1, h2⟩ := this
        have hvs : vs = [] := by cases vs with | nil => rfl | cons => simp [RvL] at h2
        subst hvs
        simp only [tmOf, Array.getD_eq_getD_getElem?] at h1
        cases hq : a.tmps[d]? with
        | none => simp [hg, yielded, hj, hq]
        | some u =>
          rw [hq] at h1
          simp only [Option.getD_some] at h1
          subst h1
          simp [hg, yielded, hj, hq]
      · cases hw
    · cases hw

theorem upon_mono {o : Oper} {a : Act} {w : World} {next next' : Act → World → Prop} {Q : Exit → Act → World → Prop} (h : o.wp P a w next Q) (hn : ∀ a w, next a w → next' a w) : o.wp P a w next' Q := by
  unfold Oper.wp Oper.upon at h ⊢
  split at h <;> first | exact hn _ _ h | exact h | skip
  · refine h.mono ?_
    intro e w' he
    cases e with
    | returned v => exact hn _ _ he
    | panicked c => exact he
    | outgrown => exact he
  · exact Rows.mono h fun v w' hv => hn _ _ hv
def okDst (N : Nat) (o : Oper) : Bool := match o.dst with | some d => decide (d < N) | none => true
theorem okDst_lt {N : Nat} {o : Oper} (h : okDst N o = true) : ∀ d, o.dst = some d → d < N := by
  intro d hd
  unfold okDst at h
  rw [hd] at h
  simpa using h
theorem runOps_ok (hT : TOk P T) (hS : ShOk T) (hc : CallOk P call) {ops : Array Oper} {Q : Exit → Act → World → Prop} {S' : St} (hQ : ∀ a w, InvA w0 F0 Pb N S' a w → Q .normal a w) : ∀ (l : List Nat) {S : St} {a : Act} {w : World},
    (∀ i ∈ l, ∃ o, ops[i]? = some o ∧ okDst N o = true) → runOps T call an ops (l.filterMap (ops[·]?)) S = some S' → InvA w0 F0 Pb N S a w → wpOps P ops Q l a w
  | [], S, a, w, hl, hr, h => by
    simp only [List.filterMap_nil, runOps, Option.some.injEq] at hr
    subst hr
    exact hQ a w h
  | i :: l, S, a, w, hl, hr, h => by
    obtain ⟨o, ho, hd⟩ := hl i (by simp)
    have hfm : (i :: l).filterMap (ops[·]?) = o :: l.filterMap (ops[·]?) := by rw [List.filterMap_cons, ho]
    rw [hfm] at hr
    simp only [runOps] at hr
    simp only [wpOps, ho]
    split at hr
    · rename_i hw
      rw [if_pos (wantedX_ok h hw)]
      split at hr
      · rename_i S1 hS1
        refine .inl ?_
        have := opStep_ok hT hS hc (okDst_lt hd) hS1 h Q
        refine upon_mono this fun a' w' h' => runOps_ok hT hS hc hQ l (fun j hj => hl j (by simp [hj])) hr h'
      · cases hr
    · rename_i hw
      rw [if_neg (by rw [wantedX_ok h hw]; simp)]
      obtain ⟨h1, h2, F, A, hI⟩ := h
      exact runOps_ok hT hS hc hQ l (fun j hj => hl j (by simp [hj])) hr (put_ok (x := .tup []) hI ⟨[], rfl, by simp [RvL]⟩ h1 h2 (okDst_lt hd))
    · cases hr
end
end Go.EV
