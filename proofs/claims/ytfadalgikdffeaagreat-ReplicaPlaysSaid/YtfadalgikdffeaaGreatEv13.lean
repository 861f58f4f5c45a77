/- A call, in the model's terms; stores; appends. -/
import Derived.Test.YtfadalgikdffeaaGreatEv12
set_option linter.unusedVariables false
set_option linter.unusedSimpArgs false
namespace Go.EV
open Go.RowKit
/-- From w to w' blocks of bi alone have turned. -/
structure Bel (bi : List Nat) (w w' : World) : Prop where
  os : w'.os = w.os
  tape : w'.tape = w.tape
  output : w'.output = w.output
  size : w.heap.size ≤ w'.heap.size
  keep : ∀ b, b < w.heap.size → b ∉ bi → w'.heap[b]? = w.heap[b]?
  shape : Shape w w'
theorem Bel.below {w w' : World} (h : Bel [] w w') : Below w.heap.size w w' := ⟨h.os, h.tape, h.output, h.size, fun b hb => h.keep b hb (by simp)⟩
theorem Below.bel {w w' : World} (h : Below w.heap.size w w') : Bel [] w w' := ⟨h.os, h.tape, h.output, h.size, fun b hb _ => h.block b hb, .below h⟩
/-- What comes back, argument by argument. -/
def RoB (w : World) (F : Nat → Prop) : List X → List Value → List Nat → Prop
  | [], _, bs => bs = []
  | x :: xs, vs, bs => ∃ v vs' b1 b2, vs = v :: vs' ∧ bs = b1 ++ b2 ∧ ((x = .bot ∧ b1 = []) ∨ ∃ cs, Ro w F x cs b1 ∧ v = val x cs) ∧ RoB w F xs vs' b2
/-- What comes of a call. -/
def Came (w : World) (F : Nat → Prop) (vs : List Value) (bi : List Nat) (res : X) (outs : List X) (v : Value) (w' : World) : Prop :=
  ∃ F' bs bo, Bel bi w w' ∧ RoV w' F' res v bs ∧ RoB w' F' outs vs bo ∧ (bs ++ bo).Nodup ∧ (∀ b ∈ bs ++ bo, ¬ F' b ∧ b < w'.heap.size ∧ (b < w.heap.size → b ∈ bi)) ∧ (∀ b, F' b → b < w'.heap.size ∧ (b < w.heap.size → F b ∨ b ∈ bi))
/-- What a table of functions says holds of the program's functions. -/
def CallOk (P : Program) (call : FuncId → List X → Option (X × List X)) : Prop :=
  ∀ f ts res outs, call f ts = some (res, outs) → ∀ (w : World) (F : Nat → Prop) (vs : List Value) (bi : List Nat), RoVL w F ts vs bi → bi.Nodup → (∀ b ∈ bi, ¬ F b ∧ b < w.heap.size) → (∀ b, F b → b < w.heap.size) →
    (P.funcs[f]?).any (fun fn => fn.body.isSome && fn.name != "runtime.NumGoroutine") = true ∧
    Calls P f vs.toArray w fun e w' => ∃ v, e = .returned v ∧ Came w F vs bi res outs v w'
mutual
theorem rf_ro {w : World} {F : Nat → Prop} : ∀ {x : X} {cs : List Value}, Rf w F x cs → Ro w F x cs []
  | .ag xs, cs, h => by simp only [Rf] at h; simp only [Ro]; exact rfL_ro h
  | .b v, cs, h | .i k n, cs, h | .s l, cs, h | .ar d xs, cs, h | .sl f xs, cs, h | .np, cs, h | .pf x, cs, h | .nm, cs, h | .nf, cs, h => by simp only [Ro]; exact ⟨trivial, h⟩
  | .bot, cs, h | .tup _, cs, h | .hw _, cs, h | .hd _ _ _ _, cs, h | .pt _ _ _, cs, h | .fn _ _, cs, h | .ow _ _, cs, h | .ob _, cs, h => by simp [Rf] at h
theorem rfL_ro {w : World} {F : Nat → Prop} : ∀ {xs : List X} {cs : List Value}, RfL w F xs cs → RoL w F xs cs []
  | [], cs, h => by simpa [RfL, RoL] using h
  | x :: xs, cs, h => by
    simp only [RfL] at h
    obtain ⟨c1, c2, rfl, h1, h2⟩ := h
    simp only [RoL]
    exact ⟨c1, c2, [], [], rfl, rfl, rf_ro h1, rfL_ro h2⟩
end
theorem leaveF_ok {w : World} {F : Nat → Prop} : ∀ {ys : List X} {vs : List Value}, All2 (fun y v => ∃ cs, Rf w F y cs ∧ v = val y cs) ys vs → RoVL w F ys vs [] ∧ ∀ y ∈ ys, y.isTup = false
  | _, _, .nil => ⟨by simp [RoVL], by simp⟩
  | y :: ys, v :: vs, .cons hy hys => by
    obtain ⟨cs, h1, h2⟩ := hy
    obtain ⟨h3, h4⟩ := leaveF_ok hys
    refine ⟨by simp only [RoVL]; exact ⟨v, vs, cs, [], [], rfl, rfl, rf_ro h1, h2, h3⟩, fun z hz => ?_⟩
    rcases List.mem_cons.1 hz with rfl | hz
    · cases z <;> simp_all [Rf, X.isTup]
    · exact h4 z hz
section
variable {P : Program} {T : TT} {w0 : World} {F0 F : Nat → Prop} {Pb : PB} {A : Nat → Option RA} {S : St} {tm : Nat → Value} {w : World}
mutual
theorem rf_flat {w : World} {F F' : Nat → Prop} : ∀ {x : X} {cs : List Value}, x.flat = true → Rf w F x cs → Rf w F' x cs
  | .ag xs, cs, hz, h => by simp only [Rf] at h ⊢; exact rfL_flat (by simpa [X.flat] using hz) h
  | .ar d xs, cs, hz, h => by simp only [Rf] at h ⊢; exact rfE_flat (by simpa [X.flat] using hz) h
  | .sl f [], cs, hz, h => by simp only [Rf] at h ⊢; obtain ⟨a, c, h1, h2, h3, _⟩ := h; exact ⟨a, c, h1, h2, h3, by simp⟩
  | .sl f (_ :: _), cs, hz, h => by simp [X.flat] at hz
  | .b v, cs, hz, h | .i k n, cs, hz, h | .s l, cs, hz, h | .np, cs, hz, h | .nm, cs, hz, h | .nf, cs, hz, h => by simpa only [Rf] using h
  | .pf x, cs, hz, h => by simp [X.flat] at hz
  | .bot, cs, hz, h | .tup _, cs, hz, h | .hw _, cs, hz, h | .hd _ _ _ _, cs, hz, h | .pt _ _ _, cs, hz, h | .fn _ _, cs, hz, h | .ow _ _, cs, hz, h | .ob _, cs, hz, h => by simp [Rf] at h
theorem rfL_flat {w : World} {F F' : Nat → Prop} : ∀ {xs : List X} {cs : List Value}, flatL xs = true → RfL w F xs cs → RfL w F' xs cs
  | [], cs, _, h => by simpa [RfL] using h
  | x :: xs, cs, hz, h => by
    simp only [flatL, Bool.and_eq_true] at hz
    simp only [RfL] at h ⊢
    obtain ⟨c1, c2, rfl, h1, h2⟩ := h
    exact ⟨c1, c2, rfl, rf_flat hz.1 h1, rfL_flat hz.2 h2⟩
theorem rfE_flat {w : World} {F F' : Nat → Prop} {d : Nat} : ∀ {xs : List X} {cs : List Value}, flatL xs = true → RfE w F d xs cs → RfE w F' d xs cs
  | [], cs, _, h => by simpa [RfE] using h
  | x :: xs, cs, hz, h => by
    simp only [flatL, Bool.and_eq_true] at hz
    simp only [RfE] at h ⊢
    obtain ⟨c1, c2, rfl, hd, h1, h2⟩ := h
    exact ⟨c1, c2, rfl, hd, rf_flat hz.1 h1, rfE_flat hz.2 h2⟩
end
mutual
theorem ro_flat {w : World} {F F' : Nat → Prop} : ∀ {x : X} {cs : List Value} {bs : List Nat}, x.flat = true → Ro w F x cs bs → Ro w F' x cs bs
  | .ag xs, cs, bs, hz, h => by simp only [Ro] at h ⊢; exact roL_flat (by simpa [X.flat] using hz) h
  | .ow d xs, cs, bs, hz, h => by
    simp only [Ro] at h ⊢
    obtain ⟨a, c, h1, h2, h3⟩ := h
    refine ⟨a, c, h1, h2, h3.imp id ?_⟩
    rintro ⟨b, o, cs', e1, e2, e3, e4⟩
    exact ⟨b, o, cs', e1, e2, rfE_flat (by simpa [X.flat] using hz) e3, e4⟩
  | .ob x, cs, bs, hz, h => by
    simp only [Ro] at h ⊢
    obtain ⟨b, o, c, bs', h1, h2, h3, h4⟩ := h
    exact ⟨b, o, c, bs', h1, h2, ro_flat (by simpa [X.flat] using hz) h3, h4⟩
  | .b v, cs, bs, hz, h | .i k n, cs, bs, hz, h | .s l, cs, bs, hz, h | .ar d xs, cs, bs, hz, h | .sl f xs, cs, bs, hz, h | .np, cs, bs, hz, h | .pf x, cs, bs, hz, h | .nm, cs, bs, hz, h | .nf, cs, bs, hz, h => by
    simp only [Ro] at h ⊢
    exact ⟨h.1, rf_flat hz h.2⟩
  | .bot, cs, bs, hz, h | .tup _, cs, bs, hz, h | .hw _, cs, bs, hz, h | .hd _ _ _ _, cs, bs, hz, h | .pt _ _ _, cs, bs, hz, h | .fn _ _, cs, bs, hz, h => by simp [Ro] at h
theorem roL_flat {w : World} {F F' : Nat → Prop} : ∀ {xs : List X} {cs : List Value} {bs : List Nat}, flatL xs = true → RoL w F xs cs bs → RoL w F' xs cs bs
  | [], cs, bs, _, h => by simpa only [RoL] using h
  | x :: xs, cs, bs, hz, h => by
    simp only [flatL, Bool.and_eq_true] at hz
    simp only [RoL] at h ⊢
    obtain ⟨c1, c2, b1, b2, rfl, rfl, h1, h2⟩ := h
    exact ⟨c1, c2, b1, b2, rfl, rfl, ro_flat hz.1 h1, roL_flat hz.2 h2⟩
end
theorem roVL_flat {F F' : Nat → Prop} : ∀ {xs : List X} {vs : List Value} {bs : List Nat}, flatL xs = true → RoVL w F xs vs bs → RoVL w F' xs vs bs
  | [], vs, bs, _, h => by simpa only [RoVL] using h
  | x :: xs, vs, bs, hz, h => by
    simp only [flatL, Bool.and_eq_true] at hz
    simp only [RoVL] at h ⊢
    obtain ⟨v, vs', cs, b1, b2, rfl, rfl, h1, hv, h2⟩ := h
    exact ⟨v, vs', cs, b1, b2, rfl, rfl, ro_flat hz.1 h1, hv, roVL_flat hz.2 h2⟩
theorem roV_flat {F F' : Nat → Prop} {x : X} {v : Value} {bs : List Nat} (hz : x.flat = true) (h : RoV w F x v bs) : RoV w F' x v bs := by
  unfold RoV at h ⊢
  split at h
  · obtain ⟨vs, h1, h2⟩ := h
    exact ⟨vs, h1, roVL_flat (by simpa [X.flat] using hz) h2⟩
  · obtain ⟨cs, h1, h2⟩ := h
    exact ⟨cs, ro_flat hz h1, h2⟩
mutual
theorem ro_mono {w : World} {F F' : Nat → Prop} (hF : ∀ b, F b → F' b) : ∀ {x : X} {cs : List Value} {bs : List Nat}, Ro w F x cs bs → Ro w F' x cs bs
  | .ag xs, cs, bs, h => by simp only [Ro] at h ⊢; exact roL_mono hF h
  | .ow d xs, cs, bs, h => by
    simp only [Ro] at h ⊢
    obtain ⟨a, c, h1, h2, h3⟩ := h
    refine ⟨a, c, h1, h2, h3.imp id ?_⟩
    rintro ⟨b, o, cs', e1, e2, e3, e4⟩
    exact ⟨b, o, cs', e1, e2, rfE_mono hF (fun _ _ => rfl) e3, e4⟩
  | .ob x, cs, bs, h => by
    simp only [Ro] at h ⊢
    obtain ⟨b, o, c, bs', h1, h2, h3, h4⟩ := h
    exact ⟨b, o, c, bs', h1, h2, ro_mono hF h3, h4⟩
  | .b v, cs, bs, h | .i k n, cs, bs, h | .s l, cs, bs, h | .ar d xs, cs, bs, h | .sl f xs, cs, bs, h | .np, cs, bs, h | .pf x, cs, bs, h | .nm, cs, bs, h | .nf, cs, bs, h => by
    simp only [Ro] at h ⊢
    exact ⟨h.1, rf_mono hF (fun _ _ => rfl) h.2⟩
  | .bot, cs, bs, h | .tup _, cs, bs, h | .hw _, cs, bs, h | .hd _ _ _ _, cs, bs, h | .pt _ _ _, cs, bs, h | .fn _ _, cs, bs, h => by simp [Ro] at h
theorem roL_mono {w : World} {F F' : Nat → Prop} (hF : ∀ b, F b → F' b) : ∀ {xs : List X} {cs : List Value} {bs : List Nat}, RoL w F xs cs bs → RoL w F' xs cs bs
  | [], cs, bs, h => by simpa only [RoL] using h
  | x :: xs, cs, bs, h => by
    simp only [RoL] at h ⊢
    obtain ⟨c1, c2, b1, b2, rfl, rfl, h1, h2⟩ := h
    exact ⟨c1, c2, b1, b2, rfl, rfl, ro_mono hF h1, roL_mono hF h2⟩
end
theorem roVL_mono {F F' : Nat → Prop} (hF : ∀ b, F b → F' b) : ∀ {xs : List X} {vs : List Value} {bs : List Nat}, RoVL w F xs vs bs → RoVL w F' xs vs bs
  | [], vs, bs, h => by simpa only [RoVL] using h
  | x :: xs, vs, bs, h => by
    simp only [RoVL] at h ⊢
    obtain ⟨v, vs', cs, b1, b2, rfl, rfl, h1, hv, h2⟩ := h
    exact ⟨v, vs', cs, b1, b2, rfl, rfl, ro_mono hF h1, hv, roVL_mono hF h2⟩
theorem roV_mono {F F' : Nat → Prop} (hF : ∀ b, F b → F' b) {x : X} {v : Value} {bs : List Nat} (h : RoV w F x v bs) : RoV w F' x v bs := by
  unfold RoV at h ⊢
  split at h
  · obtain ⟨vs, h1, h2⟩ := h
    exact ⟨vs, h1, roVL_mono hF h2⟩
  · obtain ⟨cs, h1, h2⟩ := h
    exact ⟨cs, ro_mono hF h1, h2⟩
/-- More blocks are known to be written by nobody. -/
theorem Inv.moreF (h : Inv w0 F0 Pb F A S tm w) {F' : Nat → Prop} (hF : ∀ b, F b → F' b) (hn : ∀ b, F' b → b < w.heap.size ∧ (b < w0.heap.size → F0 b ∨ Pb b) ∧ ∀ g ra, A g = some ra → 0 < ra.cap → b ≠ ra.b) : Inv w0 F0 Pb F' A S tm w :=
  { h with
    fo := fun b hb => ⟨(hn b hb).1, (hn b hb).2.1⟩
    tv := fun v => (h.tv v).mono hF (fun _ _ => rfl) (ASub.refl A)
    rv := fun g x hx => by
      obtain ⟨ra, c, h1, h2⟩ := h.rv g x hx
      exact ⟨ra, c, h1, h2.mono hF (fun _ _ => rfl) (ASub.refl A) (fun _ => rfl)⟩
    nw := fun g ra hg hc => ⟨(h.nw g ra hg hc).1, (h.nw g ra hg hc).2.1, fun hf => (hn _ hf).2.2 g ra hg hc rfl⟩ }
variable {call : FuncId → List X → Option (X × List X)} {an : FuncId → An} {dst : Nat} {a : Act} {o : Oper} {x : X} {news : List (Nat × X)} {fl : List Nat}
theorem callFunc_run {f : FuncId} {vs : Array Value} (h : (P.funcs[f]?).any (fun fn => fn.body.isSome && fn.name != "runtime.NumGoroutine") = true) : (callFunc f vs).run P w = .ok (.enter f vs) w := by
  cases hf : P.funcs[f]? with
  | none => simp [hf] at h
  | some fn =>
    simp [hf] at h
    obtain ⟨h1, h2⟩ := h
    unfold callFunc
    simp [hf, h2]
    cases hb : fn.body with
    | none => simp [hb] at h1
    | some c => simp
theorem callV_ok (hc : CallOk P call) (h : Inv w0 F0 Pb F A S tm w) {f : FuncId} {args : List X} {vals : List Value} (hvs : All2 (fun x v => Rv w F A x v) args vals) (hexec : (execOp a.eval o).run P w = (callFunc f vals.toArray).run P w) (hq : callX call an S.r dst f args = some (x, news, fl)) :
    QOk P w0 F0 Pb S tm w o a x news fl := by
  unfold callX at hq
  split at hq
  · split at hq
    · rename_i ts hts
      split at hq
      · rename_i res outs hcall
        simp only [Option.some.injEq, Prod.mk.injEq] at hq
        obtain ⟨rfl, rfl, hfl⟩ := hq
        intro S1 r' h1 h2 next Q K
        -- the callee's view: what F says, and what is lent
        let Fc : Nat → Prop := fun b => F b ∨ ∃ g ra, g ∈ refsL args ∧ A g = some ra ∧ 0 < ra.cap ∧ b = ra.b
        have hvals := frzL_vals (F' := Fc) h.places (fun b hb => .inl hb) hts (fun g hg ra hA hcp => .inr ⟨g, ra, hg, hA, hcp, rfl⟩) hvs
        have hFc : ∀ b, Fc b → b < w.heap.size := by
          rintro b (hb | ⟨g, ra, _, hA, hcp, rfl⟩)
          · exact (h.fo b hb).1
          · exact (h.nw g ra hA hcp).1
        obtain ⟨hfn, hcalls⟩ := hc f ts res outs hcall w Fc vals [] (leaveF_ok hvals).1 .nil (by simp) hFc
        unfold Oper.wp
        have hex : (execOp a.eval o).run P w = .ok (.enter f vals.toArray) w := hexec.trans (callFunc_run hfn)
        rw [hex, Oper.upon_enter]
        refine hcalls.mono ?_
        rintro e w' ⟨v, rfl, F', bs, bo, hbel0, hro, _, hnd0, hbs0, hF0'⟩
        have hbel := hbel0.below
        have hnd : bs.Nodup := (List.nodup_append.1 hnd0).1
        have hbs : ∀ b ∈ bs, ¬ F' b ∧ w.heap.size ≤ b ∧ b < w'.heap.size := fun b hb => by
          obtain ⟨q1, q2, q3⟩ := hbs0 b (List.mem_append.2 (.inl hb))
          refine ⟨q1, ?_, q2⟩
          rcases Nat.lt_or_ge b w.heap.size with hlt | hge
          · simpa using q3 hlt
          · exact hge
        have hF' : ∀ b, F' b → b < w'.heap.size ∧ (b < w.heap.size → Fc b) := fun b hb => ⟨(hF0' b hb).1, fun hlt => ((hF0' b hb).2 hlt).resolve_right (by simp)⟩
        simp only
        obtain ⟨F1, A1, hI1, hF1, hg1, _⟩ := h.freezeL h1
        have hI1' := hI1.grow hbel
        by_cases hflat : (!(an f).hold && res.flat) = true
        · -- nothing of what is lent is in the result
          have hro' : RoV w' F1 res v bs := roV_flat (by simp only [Bool.and_eq_true] at hflat; exact hflat.2) hro
          have hfree : Free w0 Pb F1 w' A1 bs := ⟨hnd, fun b hb => by
            obtain ⟨b1, b2, b3⟩ := hbs b hb
            refine ⟨fun hf => ?_, b3, fun hlt => ?_, fun k rb hk hcp => ?_⟩
            · have := (hI1.fo b hf).1; omega
            · exfalso; have := h.size; omega
            · have := (hI1.nw k rb hk hcp).1; omega⟩
          obtain ⟨A2, hI2, hs2, hv2, _⟩ := impV_ok (lim := nlim) (fun g ra h1 h2 => absurd h1 (by omega)) hI1' hro' hfree h2
          exact K v w' F1 A2 hI2 hv2
        · -- what is lent is nobody's from now on
          have hfl' : fl = refsL args := by rw [← hfl, if_neg hflat]
          subst hfl'
          let F2 : Nat → Prop := fun b => F1 b ∨ F' b
          have hI2 : Inv w0 F0 Pb F2 A1 S1 tm w' := hI1'.moreF (fun b hb => .inl hb) (by
            rintro b (hb | hb)
            · refine ⟨(hI1'.fo b hb).1, (hI1'.fo b hb).2, fun g ra hA hcp e => ?_⟩
              subst e; exact (hI1'.nw g ra hA hcp).2.2 hb
            · obtain ⟨b1, b2⟩ := hF' b hb
              by_cases hlt : b < w.heap.size
              · have hb1 : F1 b := by
                  rcases b2 hlt with h5 | ⟨g, ra, hg, hA, hcp, rfl⟩
                  · exact hF1 b h5
                  · exact hg1 g hg ra hA hcp
                refine ⟨(hI1'.fo b hb1).1, (hI1'.fo b hb1).2, fun g ra hA hcp e => ?_⟩
                subst e; exact (hI1'.nw g ra hA hcp).2.2 hb1
              · refine ⟨b1, fun h5 => ?_, fun g ra hA hcp e => ?_⟩
                · exfalso; have := h.size; omega
                · have := (hI1.nw g ra hA hcp).1; omega)
          have hro' : RoV w' F2 res v bs := roV_mono (fun b hb => .inr hb) hro
          have hfree : Free w0 Pb F2 w' A1 bs := ⟨hnd, fun b hb => by
            obtain ⟨b1, b2, b3⟩ := hbs b hb
            refine ⟨fun hf => ?_, b3, fun hlt => ?_, fun k rb hk hcp => ?_⟩
            · rcases hf with hf | hf
              · have := (hI1.fo b hf).1; omega
              · exact b1 hf
            · exfalso; have := h.size; omega
            · have := (hI1.nw k rb hk hcp).1; omega⟩
          obtain ⟨A2, hI3, hs2, hv2, _⟩ := impV_ok (lim := nlim) (fun g ra h1 h2 => absurd h1 (by omega)) hI2 hro' hfree h2
          exact K v w' F2 A2 hI3 hv2
      · cases hq
    · cases hq
  · cases hq
theorem call_ok (hc : CallOk P call) (h : Inv w0 F0 Pb F A S tm w) (hev : ∀ x, Rv w F A (S.ev x) (a.eval x)) {c : Call} {f : FuncId} (hop : o.op = .call c) (hcal : c.callee = .value (.func f)) (hq : callX call an S.r dst f (c.args.toList.map S.ev) = some (x, news, fl)) :
    QOk P w0 F0 Pb S tm w o a x news fl := by
  refine callV_ok hc h (all2_map (a := a) hev c.args.toList) ?_ hq
  have e : c.args.map a.eval = (c.args.toList.map a.eval).toArray := by apply Array.ext'; simp
  have e2 : Act.eval a (.func f) = .func (.func f) #[] #[] := rfl
  simp only [execOp, hop, resolve, hcal, Deferred.ofValue, e2, invoke, e, Sem.run_bind, Sem.run_pure, Result.andThen_ok]
  simp
theorem caps_all2 : ∀ {cap : List X} {c : List Value}, RcL w F A cap c → (cap.all fun x => !x.agg) = true → All2 (fun x v => Rv w F A x v) cap c
  | [], c, h, _ => by simp only [RcL] at h; subst h; exact .nil
  | x :: cap, c, h, hc => by
    simp only [List.all_cons, Bool.and_eq_true, Bool.not_eq_true'] at hc
    simp only [RcL] at h
    obtain ⟨c1, c2, rfl, h1, h2⟩ := h
    have hl := rc_len h1
    have hs : x.size = 1 := by have := hc.1; cases x <;> simp_all [X.agg, X.size]
    rw [hs] at hl
    match c1, hl with
    | [u], _ => exact .cons (R1.rv (R1.of_single h1 hc.1)) (caps_all2 h2 (by simpa using hc.2))
theorem All2.app {α β : Type} {R : α → β → Prop} : ∀ {l1 : List α} {m1 : List β} {l2 : List α} {m2 : List β}, All2 R l1 m1 → All2 R l2 m2 → All2 R (l1 ++ l2) (m1 ++ m2)
  | _, _, _, _, .nil, h => h
  | _, _, _, _, .cons h1 h2, h => .cons h1 (h2.app h)
theorem closure_ok (hc : CallOk P call) (h : Inv w0 F0 Pb F A S tm w) (hev : ∀ x, Rv w F A (S.ev x) (a.eval x)) {c : Call} {f : FuncId} {cap : List X} {t : Nat} (hop : o.op = .call c) (hcal : c.callee = .value (.tmp t)) (hS : S.ev (.tmp t) = .fn f cap) (hq : callX call an S.r dst f (c.args.toList.map S.ev ++ cap) = some (x, news, fl)) :
    QOk P w0 F0 Pb S tm w o a x news fl := by
  have hv := hev (.tmp t)
  rw [hS] at hv
  have h1 := (Rv.one hv rfl rfl).single rfl
  simp only [Rc] at h1
  obtain ⟨cv, h2, h3, h4⟩ := h1
  have h5 : a.eval (.tmp t) = .func (.func f) #[] cv.toArray := by simpa using h4
  refine callV_ok hc h ((all2_map (a := a) hev c.args.toList).app (caps_all2 h2 h3)) ?_ hq
  have e : c.args.map a.eval = (c.args.toList.map a.eval).toArray := by apply Array.ext'; simp
  simp only [execOp, hop, resolve, hcal, Deferred.ofValue, h5, invoke, e, Sem.run_bind, Sem.run_pure, Result.andThen_ok]
  simp
end
end Go.EV
