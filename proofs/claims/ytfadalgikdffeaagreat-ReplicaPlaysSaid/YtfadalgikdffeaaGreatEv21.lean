/- The table of types, held against the program; a law's row out of the plain law. -/
import Derived.Test.YtfadalgikdffeaaGreatEv20
set_option linter.unusedVariables false
set_option linter.unusedSimpArgs false
namespace Go.EV
open Go.RowKit Go.ChangeShapes
def veq : Value → Value → Bool
  | .bool a, .bool b => a == b
  | .int j a, .int k b => decide (j = k) && a == b
  | .string a, .string b => a.size == 0 && b.size == 0
  | .slice none 0 0, .slice none 0 0 => true
  | .pointer none, .pointer none => true
  | .map none, .map none => true
  | .nilFunc, .nilFunc => true
  | _, _ => false
theorem veq_eq {a b : Value} (h : veq a b = true) : a = b := by
  unfold veq at h
  split at h <;> first | rfl | (cases h; done) | skip
  · simp at h; rw [h]
  · simp at h; rw [h.1, h.2]
  · rename_i s t
    simp only [Bool.and_eq_true, beq_iff_eq] at h
    obtain ⟨h1, h2⟩ := h
    congr 1
    apply ByteArray.ext
    have e1 : s.data = #[] := Array.eq_empty_of_size_eq_zero h1
    have e2 : t.data = #[] := Array.eq_empty_of_size_eq_zero h2
    rw [e1, e2]
mutual
def zc : X → Option (List Value)
  | .b v => some [.bool v]
  | .i k n => some [.int k n]
  | .s [] => some [.string ⟨#[]⟩]
  | .sl true [] => some [.slice none 0 0]
  | .np => some [.pointer none]
  | .nm => some [.map none]
  | .nf => some [.nilFunc]
  | .ag xs => zcL xs
  | .ar d xs => zcE d xs
  | _ => none
def zcL : List X → Option (List Value)
  | [] => some []
  | x :: xs => match zc x, zcL xs with
    | some c, some cs => some (c ++ cs)
    | _, _ => none
def zcE (d : Nat) : List X → Option (List Value)
  | [] => some []
  | x :: xs => match zc x, zcE d xs with
    | some c, some cs => if c.length = d then some (c ++ cs) else none
    | _, _ => none
end
section
variable {w : World} {F : Nat → Prop}
mutual
theorem zc_ok : ∀ {x : X} {cs : List Value}, zc x = some cs → Rf w F x cs
  | .b v, cs, h => by simp [zc] at h; simp [Rf, h]
  | .i k n, cs, h => by simp [zc] at h; simp [Rf, h]
  | .s [], cs, h => by simp [zc] at h; simp [Rf, h]
  | .s (_ :: _), cs, h => by simp [zc] at h
  | .sl true [], cs, h => by simp [zc] at h; simp [Rf, ← h]
  | .sl true (_ :: _), cs, h => by simp [zc] at h
  | .sl false xs, cs, h => by simp [zc] at h
  | .np, cs, h => by simp [zc] at h; simp [Rf, h]
  | .nm, cs, h => by simp [zc] at h; simp [Rf, h]
  | .nf, cs, h => by simp [zc] at h; simp [Rf, h]
  | .ag xs, cs, h => by simp only [zc] at h; simp only [Rf]; exact zcL_ok h
  | .ar d xs, cs, h => by simp only [zc] at h; simp only [Rf]; exact zcE_ok h
  | .bot, cs, h | .tup _, cs, h | .hw _, cs, h | .hd _ _ _ _, cs, h | .pt _ _ _, cs, h | .pf _, cs, h | .fn _ _, cs, h | .ow _ _, cs, h | .ob _, cs, h => by simp [zc] at h
theorem zcL_ok : ∀ {xs : List X} {cs : List Value}, zcL xs = some cs → RfL w F xs cs
  | [], cs, h => by simp [zcL] at h; simp [RfL, h]
  | x :: xs, cs, h => by
    simp only [zcL] at h
    split at h
    · rename_i c c2 h1 h2
      cases h
      simp only [RfL]
      exact ⟨c, c2, rfl, zc_ok h1, zcL_ok h2⟩
    · cases h
theorem zcE_ok {d : Nat} : ∀ {xs : List X} {cs : List Value}, zcE d xs = some cs → RfE w F d xs cs
  | [], cs, h => by simp [zcE] at h; simp [RfE, h]
  | x :: xs, cs, h => by
    simp only [zcE] at h
    split at h
    · rename_i c c2 h1 h2
      split at h
      · rename_i hd
        cases h
        simp only [RfE]
        exact ⟨c, c2, rfl, hd, zc_ok h1, zcE_ok h2⟩
      · cases h
    · cases h
end
end
def veqL : List Value → List Value → Bool
  | [], [] => true
  | a :: as, b :: bs => veq a b && veqL as bs
  | _, _ => false
theorem veqL_eq : ∀ {as bs : List Value}, veqL as bs = true → as = bs
  | [], [], _ => rfl
  | a :: as, b :: bs, h => by
    simp only [veqL, Bool.and_eq_true] at h
    rw [veq_eq h.1, veqL_eq h.2]
  | [], _ :: _, h => by simp [veqL] at h
  | _ :: _, [], h => by simp [veqL] at h
def zeroChk (x : X) (z : Value) : Bool :=
  match zc x with
  | some cs => if x.agg then (match z with | .agg c => veqL c.toList cs | _ => false) else (match cs with | [u] => veq z u | _ => false)
  | none => false
def descChk (T : TT) (d : TypeDesc) : TD → Bool
  | .bool => match d with | .bool => true | _ => false
  | .int k => match d with | .int j => decide (j = k) | _ => false
  | .str => match d with | .string => true | _ => false
  | .sl e => match d with | .slice f => f == e | _ => false
  | .pt e => match d with | .pointer f => f == e | _ => false
  | .arr n e => match d with | .array m f => m == n && f == e | _ => false
  | .st fs => match d with
    | .struct fields => fields.toList.map (·.type) == fs && (List.range fields.size).all fun j => match fields[j]? with
      | some f => f.offset == offs T fs j && (match T f.type with | some fi => fi.size != 0 | none => false)
      | none => false
    | _ => false
  | .oth => true
def shapeChk (T : TT) (ti : TI) : Bool :=
  match ti.td, ti.zero with
  | .st fs, .ag zs => zs.map X.size == fs.map fun t => ((T t).map (·.size)).getD 0
  | .arr n e, .ar d zs => (match T e with | some ei => ei.size == d | none => false) && zs.length == n
  | .st _, _ | .arr _ _, _ => false
  | _, _ => true
def tiChk (P : Program) (T : TT) (t : Nat) (ti : TI) : Bool :=
  match P.info? t, P.underlying t with
  | some i, some d => i.size == ti.size && i.bytes == ti.bytes && (match i.zero with | some z => zeroChk ti.zero z | none => false) && descChk T d ti.td && d.isRow == ti.td.agg && ti.zero.fz && fits ti ti.zero && (match d with | .struct fields => !cmpOk T 30 t || (fields.toList.all (fun f => f.name != "_") && !P.stoodInHeld t && !P.eqGuardType P.depth t) | _ => true) && shapeChk T ti
  | _, _ => false
theorem descChk_ok {T : TT} {d : TypeDesc} {td : TD} (h : descChk T d td = true) : descOk T d td := by
  cases td <;> simp only [descChk] at h <;> simp only [descOk]
  case st fs =>
    split at h
    · rename_i fields
      simp only [Bool.and_eq_true, beq_iff_eq, List.all_eq_true] at h
      refine ⟨fields, rfl, h.1, fun j f hf => ?_⟩
      have hlt := (Array.getElem?_eq_some_iff.1 hf).1
      have := h.2 j (by simpa using hlt)
      rw [hf] at this
      simp only [Bool.and_eq_true, beq_iff_eq] at this
      refine ⟨this.1, ?_⟩
      split at this
      · rename_i fi hfi
        exact ⟨fi, hfi, by simpa using this.2⟩
      · simp at this
    · cases h
  all_goals (split at h <;> first | (cases h; done) | simp_all)
theorem zeroChk_ok {x : X} {z : Value} (h : zeroChk x z = true) (w : World) (F : Nat → Prop) (A : Nat → Option RA) : R1 w F A x z := by
  unfold zeroChk at h
  split at h
  · rename_i cs hcs
    refine ⟨cs, rf_rc (zc_ok hcs), ?_⟩
    split at h
    · rename_i ha
      split at h
      · rename_i c
        have := veqL_eq h
        subst this
        simp [val, ha]
      · cases h
    · rename_i ha
      split at h
      · rename_i u
        rw [veq_eq h]
        simp [val, ha]
      · cases h
  · cases h
theorem shapeChk_ok {T : TT} {ti : TI} (h : shapeChk T ti = true) : shapeOk T ti := by
  obtain ⟨td, size, bytes, zero⟩ := ti
  cases td with
  | st fs =>
    cases zero <;> simp only [shapeChk, Bool.false_eq_true] at h
    rename_i zs
    simp only [shapeOk]
    intro j
    simp only [beq_iff_eq] at h
    have := congrArg (fun l => l[j]?) h
    simpa [List.getElem?_map] using this
  | arr n e =>
    cases zero <;> simp only [shapeChk, Bool.false_eq_true] at h
    rename_i d zs
    simp only [shapeOk]
    simp only [Bool.and_eq_true, beq_iff_eq] at h
    cases hei : T e with
    | none => rw [hei] at h; simp at h
    | some ei =>
      rw [hei] at h
      exact ⟨by simpa using h.1, h.2⟩
  | bool | int | str | sl | pt | oth => simp [shapeOk]
def tab (l : List (Nat × TI)) : TT := fun t => l.lookup t
theorem lookup_mem : ∀ {l : List (Nat × TI)} {t : Nat} {ti : TI}, l.lookup t = some ti → (t, ti) ∈ l
  | [], t, ti, h => by simp at h
  | (k, x) :: l, t, ti, h => by
    simp only [List.lookup_cons] at h
    split at h
    · rename_i he
      simp at he; subst he
      cases h
      simp
    · exact List.mem_cons_of_mem _ (lookup_mem h)
theorem tab_ok {P : Program} {l : List (Nat × TI)} (h : l.all (fun p => tiChk P (tab l) p.1 p.2) = true) : TOk P (tab l) ∧ ShOk (tab l) := by
  have key : ∀ t ti, tab l t = some ti → tiChk P (tab l) t ti = true := fun t ti ht => List.all_eq_true.1 h (t, ti) (lookup_mem ht)
  constructor
  · intro t ti ht
    have := key t ti ht
    unfold tiChk at this
    split at this
    · rename_i i d hi hu
      simp only [Bool.and_eq_true, beq_iff_eq] at this
      obtain ⟨⟨⟨⟨⟨⟨⟨⟨h1, h2⟩, h3⟩, h4⟩, h5⟩, h6⟩, h7⟩, h9⟩, h8⟩ := this
      split at h3
      · rename_i z hz
        refine ⟨⟨i, d, z, hi, hu, h1, h2, hz, zeroChk_ok h3, descChk_ok h4, h5⟩, h6, h7, fun hcm fields hf => ?_⟩
        rw [hu] at hf
        cases hf
        simp only [hcm, Bool.not_true, Bool.false_or, Bool.and_eq_true, Bool.not_eq_true', List.all_eq_true, bne_iff_ne] at h9
        exact ⟨h9.1.1, h9.1.2, h9.2⟩
      · cases h3
    · cases this
  · intro t ti ht
    have := key t ti ht
    unfold tiChk at this
    split at this
    · simp only [Bool.and_eq_true] at this
      exact shapeChk_ok this.2
    · cases this
section
variable {P : Program} {T : TT}
theorem arg_open (hT : TOk P T) (hS : ShOk T) {H : Type} {enc : TypeId × Value → H} {W : World} {n t base : Nat} {v : Value} {d : DataW H} {ps : List MemPlace} (hs : supp T n t = true) (hval : Value.okWide P W .any base t v) (h : DataW.Trod enc P W 0 (fun _ => true) true t v d ps) :
    ∃ x, HasTy T n t x ∧ ∃ cs, Rf W (fun b => b < W.heap.size) x cs ∧ v = val x cs := by
  obtain ⟨fuel, hf⟩ := h
  obtain ⟨x, hx, hr⟩ := opens_ok hT hS n t hs fuel _ _ _ hf
  refine ⟨x, hx, _, hr, ?_⟩
  cases n with
  | zero => simp [supp] at hs
  | succ n =>
    cases ht : T t with
    | none => simp [supp, ht] at hs
    | some ti =>
      obtain ⟨i, dd, hi, hu, hsz, _, hdesc, _⟩ := desc_ok hT ht
      obtain ⟨td, size, bytes, zero⟩ := ti
      have one : x.agg = false → (∀ cs, v ≠ .agg cs) → v = val x v.cells.toList := by
        intro ha hv
        cases v <;> first | exact absurd rfl (hv _) | simp [val, ha, Value.cells]
      cases td with
      | st fs =>
        simp only [HasTy, ht] at hx
        simp only [descOk] at hdesc
        obtain ⟨xs, rfl, _⟩ := hx
        obtain ⟨fields, rfl, _⟩ := hdesc
        unfold Value.okWide at hval
        rw [hu] at hval
        obtain ⟨cs, rfl, _⟩ := hval
        simp [val, X.agg, Value.cells]
      | bool =>
        simp only [HasTy, ht] at hx
        simp only [descOk] at hdesc
        obtain ⟨b, rfl⟩ := hx
        subst hdesc
        refine one rfl fun cs e => ?_
        subst e
        simp [Value.okWide, hu, Cell.okWide, Cell.ok] at hval
      | int k =>
        simp only [HasTy, ht] at hx
        simp only [descOk] at hdesc
        obtain ⟨b, rfl, _⟩ := hx
        subst hdesc
        refine one rfl fun cs e => ?_
        subst e
        simp [Value.okWide, hu, Cell.okWide, Cell.ok] at hval
      | str =>
        simp only [HasTy, ht] at hx
        simp only [descOk] at hdesc
        obtain ⟨b, rfl, _⟩ := hx
        subst hdesc
        refine one rfl fun cs e => ?_
        subst e
        simp [Value.okWide, hu, Cell.okWide, Cell.ok] at hval
      | sl e =>
        simp only [HasTy, ht] at hx
        simp only [descOk] at hdesc
        obtain ⟨b, rfl, _⟩ := hx
        subst hdesc
        refine one rfl fun cs e => ?_
        subst e
        simp [Value.okWide, hu, Cell.okWide, Cell.ok] at hval
      | arr m e => simp [HasTy, ht] at hx
      | pt e => simp [HasTy, ht] at hx
      | oth => simp [HasTy, ht] at hx
theorem law_calls {call : FuncId → List X → Option (X × List X)} (hc : CallOk P call) {W : World} {f : FuncId} {xs : List X} {vs : List Value} (h : call f xs = some (.b true, [])) (hv : All2 (fun y v => ∃ cs, Rf W (fun b => b < W.heap.size) y cs ∧ v = val y cs) xs vs) :
    Calls P f vs.toArray W fun e W' => e = .returned (.bool true) ∧ Below W.heap.size W W' := by
  obtain ⟨_, h1⟩ := hc f xs _ _ h W _ vs [] (leaveF_ok hv).1 .nil (by simp) (fun b hb => hb)
  refine h1.mono ?_
  rintro e W' ⟨v, rfl, F', bs, bo, hb, hr, _⟩
  obtain ⟨cs, hr, rfl⟩ := hr
  simp only [Ro, Rf] at hr
  obtain ⟨_, rfl⟩ := hr
  exact ⟨rfl, hb.below⟩
end
end Go.EV
