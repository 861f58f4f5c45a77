/- A body, a function: what the plain reading computes is what the model's machine comes to. -/
import Derived.Test.YtfadalgikdffeaaGreatEvD
import Derived.Scope
set_option linter.unusedVariables false
set_option linter.unusedSimpArgs false
namespace Go.EV
open Go.RowKit
def chkC (T : TT) (an : FuncId → An) (N : Nat) : Code → Bool
  | .region _ ops draw => ops.toList.all (okDst N) && (!draw || drawChk T an ops)
  | .seq a b => chkC T an N a && chkC T an N b
  | .cond _ a b => chkC T an N a && chkC T an N b
  | .block _ b => chkC T an N b
  | .loop b => chkC T an N b
  | .scope b => chkC T an N b
  | _ => true
def Ex.out : Ex → Exit
  | .go => .normal
  | .exit id => .exit id
  | .ret => .ret
section
variable {P : Program} {T : TT} {w0 : World} {F0 : Nat → Prop} {Pb : PB} {N : Nat} {call : FuncId → List X → Option (X × List X)} {an : FuncId → An}
def NrmOk (nrm : St → Option St) : Prop := ∀ S S', nrm S = some S' → ∀ (w0 : World) (F0 : Nat → Prop) (Pb : PB) (N : Nat) (a : Act) (w : World), InvA w0 F0 Pb N S a w → InvA w0 F0 Pb N S' a w
/-- What the round of a loop comes to, and so on. -/
def LoopWp (P : Program) (c : Code) (Q : Exit → Act → World → Prop) (a : Act) (w : World) : Prop :=
  ∀ (b : Frame) (k : List Item) (cs : List Frame), ∃ e a' w', Q e a' w' ∧ Arrives P (lone (b.at a (.code c :: .inLoop c :: k)) cs w) b k cs e a' w'
theorem loopWp_step {c : Code} {Q : Exit → Act → World → Prop} {a : Act} {w : World} (h : c.wp P (Exit.then (LoopWp P c Q) Q) a w) : LoopWp P c Q a w := by
  intro b k cs
  obtain ⟨e, a₁, w₁, hq, harr⟩ := h b (.inLoop c :: k) cs
  cases e with
  | normal =>
    obtain ⟨e₂, a₂, w₂, hq₂, harr₂⟩ := hq b k cs
    exact ⟨e₂, a₂, w₂, hq₂, .of_steps (Steps.trans harr (.one step_inLoop)) harr₂⟩
  | exit id => exact ⟨_, a₁, w₁, hq, .pass (x := .inLoop c) rfl (fun _ _ => .inl (by simp)) harr⟩
  | goto l => exact ⟨_, a₁, w₁, hq, .pass (x := .inLoop c) rfl (fun _ _ => .inl (by simp)) harr⟩
  | ret => exact ⟨_, a₁, w₁, hq, .pass (x := .inLoop c) rfl (fun _ _ => .inl (by simp)) harr⟩
  | panic ch => exact ⟨_, a₁, w₁, hq, .pass (x := .inLoop c) rfl (fun _ _ => .inl (by simp)) harr⟩
  | outgrown => exact ⟨_, a₁, w₁, hq, .pass (x := .inLoop c) rfl (fun _ _ => .inl (by simp)) harr⟩
theorem wp_loop' {c : Code} {Q : Exit → Act → World → Prop} {a : Act} {w : World} (h : LoopWp P c Q a w) : (Code.loop c).wp P Q a w := by
  intro b k cs
  obtain ⟨e, a', w', hq, harr⟩ := h b k cs
  exact ⟨e, a', w', hq, .of_steps (.one step_loop) harr⟩
def Post (w0 : World) (F0 : Nat → Prop) (Pb : PB) (N : Nat) (e : Ex) (S : St) : Exit → Act → World → Prop := fun e' a w => e' = e.out ∧ InvA w0 F0 Pb N S a w
theorem iter_ok {nrm : St → Option St} (hn : NrmOk nrm) {c : Code} {body : St → Option (Ex × St)} {Q : Exit → Act → World → Prop} {e : Ex} {S' : St} (hQ : ∀ e' a w, e ≠ .go → Post w0 F0 Pb N e S' e' a w → Q e' a w)
    (hb : ∀ S e S', body S = some (e, S') → ∀ a w, InvA w0 F0 Pb N S a w → c.wp P (Post w0 F0 Pb N e S') a w) : ∀ (m : Nat) (S : St), iter nrm body m S = some (e, S') → ∀ a w, InvA w0 F0 Pb N S a w → LoopWp P c Q a w
  | 0, S, h, a, w, hI => by simp [iter] at h
  | m + 1, S, h, a, w, hI => by
    simp only [iter] at h
    split at h
    · rename_i S1 hS1
      have hI1 := hn S S1 hS1 w0 F0 Pb N a w hI
      split at h
      · rename_i S2 hS2
        refine loopWp_step (wp_mono (hb S1 _ S2 hS2 a w hI1) ?_)
        rintro e' a' w' ⟨rfl, hI2⟩
        exact iter_ok hn hQ hb m S2 h a' w' hI2
      · rename_i hne
        refine loopWp_step (wp_mono (hb S1 _ S' h a w hI1) ?_)
        rintro e' a' w' ⟨rfl, hI2⟩
        have hne' : e ≠ .go := fun he => by subst he; exact hne _ h
        have := hQ e.out a' w' hne' ⟨rfl, hI2⟩
        cases e with
        | go => exact absurd rfl hne'
        | exit id => exact this
        | ret => exact this
    · cases h
theorem evC_ok (hm : P.follows .mixedOrders = true) (hT : TOk P T) (hS : ShOk T) (hc : CallOk P call) {nrm : Nat → St → Option St} (hn : ∀ k, NrmOk (nrm k)) {n : Nat} : ∀ (c : Code) {S S' : St} {e : Ex}, chkC T an N c = true → evC T call an nrm n c S = some (e, S') → ∀ (a : Act) (w : World), InvA w0 F0 Pb N S a w → c.wp P (Post w0 F0 Pb N e S') a w
  | .skip, S, S', e, hk, h, a, w, hI => by
    simp only [evC, Option.some.injEq, Prod.mk.injEq] at h
    obtain ⟨rfl, rfl⟩ := h
    exact wp_skip ⟨rfl, hI⟩
  | .region id ops draw, S, S', e, hk, h, a, w, hI => by
    simp only [evC] at h
    obtain ⟨S1, hr, he⟩ := Option.map_eq_some_iff.1 h
    simp only [Prod.mk.injEq] at he
    obtain ⟨rfl, rfl⟩ := he
    simp only [chkC, Bool.and_eq_true] at hk
    have ho : ∀ o ∈ ops.toList, okDst N o = true := List.all_eq_true.1 hk.1
    cases draw with
    | false =>
      refine wp_region (runOps_ok (an := an) hT hS hc (S' := S1) (fun a w hI => ⟨rfl, hI⟩) (List.range ops.size) (fun i hi => ?_) ?_ hI)
      · have hi' : i < ops.size := by simpa using hi
        exact ⟨ops[i], by simp [hi'], ho _ (by simp)⟩
      · rw [filterMap_range]; exact hr
    | true =>
      have hd : drawChk T an ops = true := by simpa using hk.2
      exact draw_ok hm hT hS hc hd ho (by simpa using hr) (fun a w hI => ⟨rfl, hI⟩) hI id
  | .seq x y, S, S', e, hk, h, a, w, hI => by
    simp only [chkC, Bool.and_eq_true] at hk
    simp only [evC] at h
    split at h
    · rename_i S1 h1
      refine wp_seq (wp_mono (evC_ok hm hT hS hc hn x hk.1 h1 a w hI) ?_)
      rintro e' a' w' ⟨rfl, hI'⟩
      exact evC_ok hm hT hS hc hn y hk.2 h a' w' hI'
    · rename_i hne
      refine wp_seq (wp_mono (evC_ok hm hT hS hc hn x hk.1 h a w hI) ?_)
      rintro e' a' w' ⟨rfl, hI'⟩
      cases e with
      | go => exact absurd h (hne _)
      | exit id => exact ⟨rfl, hI'⟩
      | ret => exact ⟨rfl, hI'⟩
  | .cond c x y, S, S', e, hk, h, a, w, hI => by
    simp only [chkC, Bool.and_eq_true] at hk
    simp only [evC] at h
    have hev : Rv w (Classical.choose hI.2.2) (Classical.choose (Classical.choose_spec hI.2.2)) (S.ev c) (a.eval c) := ev_ok (Classical.choose_spec (Classical.choose_spec hI.2.2)) (fun v => rfl) c
    split at h
    · rename_i hb
      rw [hb] at hev
      exact wp_cond_true (bool_of hev) (evC_ok hm hT hS hc hn x hk.1 h a w hI)
    · rename_i hb
      rw [hb] at hev
      exact wp_cond_false (bool_of hev) (evC_ok hm hT hS hc hn y hk.2 h a w hI)
    · cases h
  | .block id b, S, S', e, hk, h, a, w, hI => by
    simp only [chkC] at hk
    simp only [evC] at h
    split at h
    · rename_i j S1 h1
      refine wp_block (wp_mono (evC_ok hm hT hS hc hn b hk h1 a w hI) ?_)
      rintro e' a' w' ⟨rfl, hI'⟩
      simp only [Ex.out, Exit.inBlock]
      split at h
      · rename_i hj
        cases h
        rw [if_pos hj]; exact ⟨rfl, hI'⟩
      · rename_i hj
        cases h
        rw [if_neg hj]; exact ⟨rfl, hI'⟩
    · rename_i hne
      refine wp_block (wp_mono (evC_ok hm hT hS hc hn b hk h a w hI) ?_)
      rintro e' a' w' ⟨rfl, hI'⟩
      cases e with
      | go => exact ⟨rfl, hI'⟩
      | exit id => exact absurd h (hne _ _)
      | ret => exact ⟨rfl, hI'⟩
  | .loop b, S, S', e, hk, h, a, w, hI => by
    simp only [chkC] at hk
    simp only [evC] at h
    exact wp_loop' (iter_ok (hn _) (fun e' a w _ hp => hp) (fun S e S' hb a w hI => evC_ok hm hT hS hc hn b hk hb a w hI) n S h a w hI)
  | .exit id, S, S', e, hk, h, a, w, hI => by
    simp only [evC, Option.some.injEq, Prod.mk.injEq] at h
    obtain ⟨rfl, rfl⟩ := h
    exact wp_exit ⟨rfl, hI⟩
  | .label l, S, S', e, hk, h, a, w, hI => by
    simp only [evC, Option.some.injEq, Prod.mk.injEq] at h
    obtain ⟨rfl, rfl⟩ := h
    exact wp_label ⟨rfl, hI⟩
  | .ret, S, S', e, hk, h, a, w, hI => by
    simp only [evC, Option.some.injEq, Prod.mk.injEq] at h
    obtain ⟨rfl, rfl⟩ := h
    exact wp_ret ⟨rfl, hI⟩
  | .rangeFunc _ _ _ _, S, S', e, hk, h, a, w, hI => by simp [evC] at h
  | .scope b, S, S', e, hk, h, a, w, hI => by
    simp only [chkC] at hk
    simp only [evC] at h
    refine wp_scope_straight (wp_mono (evC_ok hm hT hS hc hn b hk h a w hI) ?_)
    rintro e' a' w' ⟨rfl, hI'⟩
    cases e with
    | go => exact ⟨rfl, hI'⟩
    | exit id => exact ⟨rfl, hI'⟩
    | ret => exact ⟨rfl, hI'⟩
  | .goto _, S, S', e, hk, h, a, w, hI => by simp [evC] at h
  | .refuse _, S, S', e, hk, h, a, w, hI => by simp [evC] at h
end
end Go.EV
