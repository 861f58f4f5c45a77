/- A function on typed values: what it hands back; the function as a whole. -/
import Derived.Test.YtfadalgikdffeaaGreatTv10
set_option linter.unusedVariables false
set_option linter.unusedSimpArgs false
namespace Go.EV
open Go.RowKit
/-- Results that are frozen. -/
def unRC (r : Nat → Option TX) : (s : RSh) → List TX → Option (Bool × s.den)
  | .pr (.ty τ) c, xs => match headT xs with
    | some (x, ys) => match frzT r x with
      | some y => unPairC (unemb τ y.wk) (unRC r c ys)
      | none => none
    | none => none
  | .ty τ, xs => match lone xs with
    | some x => (match frzT r x with
      | some y => unemb τ y.wk
      | none => none)
    | none => none
  | .pr (.pr _ _) _, _ | .pr (.ow _ _) _, _ | .pr (.ag _) _, _ | .pr (.tup _) _, _ | .pr (.ob _) _, _ | .pr (.opt _) _, _ | .pr .np _, _ | .pr .un _, _ => none
  | .ow _ _, _ | .ag _, _ | .tup _, _ | .ob _, _ | .opt _, _ | .np, _ => none
  | .un, xs => match xs with
    | [] => some (true, ())
    | _ => none
theorem unRC_ok {r : Nat → Option TX} : ∀ {s : RSh} {xs : List TX} {v : s.den}, unRC r s xs = some (true, v) → ∃ ys, frzL (rX r) (txL xs) = some ys ∧ wkL ys = embRC s v
  | .pr (.ty τ) c, xs, v, h => by
    simp only [unRC] at h
    split at h
    · rename_i x ys hx
      split at h
      · rename_i y hy
        obtain ⟨h1, h2⟩ := unPairC_ok h
        obtain ⟨zs, h3, h4⟩ := unRC_ok h2
        rw [headT_ok hx]
        refine ⟨y.x :: zs, by simp only [txL, frzL, frzT_ok hy, h3], ?_⟩
        simp only [wkL, embRC, h4]
        rw [← wk_x, unemb_ok τ _ v.1 h1]
        rfl
      · cases h
    · cases h
  | .ty τ, xs, v, h => by
    simp only [unRC] at h
    split at h
    · rename_i x hx
      split at h
      · rename_i y hy
        rw [lone_ok hx]
        refine ⟨[y.x], by simp only [txL, frzL, frzT_ok hy], ?_⟩
        simp only [wkL]
        rw [← wk_x, unemb_ok τ _ v h]
        rfl
      · cases h
    · cases h
  | .pr (.pr _ _) _, xs, v, h | .pr (.ow _ _) _, xs, v, h | .pr (.ag _) _, xs, v, h | .pr (.tup _) _, xs, v, h | .pr (.ob _) _, xs, v, h | .pr (.opt _) _, xs, v, h | .pr .np _, xs, v, h | .pr .un _, xs, v, h => by simp [unRC] at h
  | .ow _ _, xs, v, h | .ag _, xs, v, h | .tup _, xs, v, h | .ob _, xs, v, h | .opt _, xs, v, h | .np, xs, v, h => by simp [unRC] at h
  | .un, xs, v, h => by
    simp only [unRC] at h
    split at h
    · exact ⟨[], rfl, rfl⟩
    · cases h
def chainOf : RSh → RSh
  | .tup c => c
  | s => s
/-- The results of a function as one value. -/
def finC (fr : Bool) (s : RSh) (r : Nat → Option TX) (xs : List TX) : Option (Bool × s.den) :=
  if fr then unRC r s xs else (match outTC 8 s r xs with
    | some (c, v, _) => some (c, v)
    | none => none)
/-- The results, out of what is left. -/
def finT (T : TT) (fr : Bool) (rs : List ResultVar) (S : TS) (r : Nat → Option TX) : (s : RSh) → Option (Bool × s.den)
  | .tup c => match resT T S rs with
    | some (p, xs) => if 2 ≤ xs.length then (match finC fr c r xs with
      | some (q, v) => some (p && q, v)
      | none => none) else none
    | none => none
  | .un => match resT T S rs with
    | some (p, xs) => if xs.isEmpty then some (p, ()) else none
    | none => none
  | .pr _ _ => none
  | s => match resT T S rs with
    | some (p, xs) => if xs.length = 1 then (match finC fr s r xs with
      | some (q, v) => some (p && q, v)
      | none => none) else none
    | none => none
def leaveR (fr : Bool) (r : Nat → Option X) (xs : List X) : Option (List X) := if fr then frzL r xs else (reiL (rei 8) r xs).map (·.1)
theorem roVL_of : ∀ {ys zs : List X} {w : World} {F : Nat → Prop} {vs : List Value} {bs : List Nat}, RoVL w F ys vs bs → All2 RoLe ys zs → RoVL w F zs vs bs
  | _, _, w, F, vs, bs, h, .nil => h
  | y :: ys, z :: zs, w, F, vs, bs, h, .cons h1 h2 => by
    simp only [RoVL] at h ⊢
    obtain ⟨v, vs', cs, b1, b2, e1, e2, h3, h4, h5⟩ := h
    exact ⟨v, vs', cs, b1, b2, e1, e2, h1.1 _ _ _ _ h3, by rw [h4]; simp only [val, h1.2.2.2.1], roVL_of h5 h2⟩
theorem all2_wkLe : ∀ ys : List X, All2 RoLe ys (wkL ys)
  | [] => .nil
  | y :: ys => .cons (RoLe.wk y) (all2_wkLe ys)
theorem finC_ok {fr : Bool} {s : RSh} {r : Nat → Option TX} {xs : List TX} {v : s.den} (h : finC fr s r xs = some (true, v)) : ∃ ys, leaveR fr (rX r) (txL xs) = some ys ∧ All2 RoLe ys (embRC s v) := by
  unfold finC at h
  cases fr with
  | true =>
    simp only [if_true] at h
    obtain ⟨ys, h1, h2⟩ := unRC_ok h
    refine ⟨ys, by simp only [leaveR, if_true]; exact h1, ?_⟩
    rw [← h2]
    exact all2_wkLe ys
  | false =>
    simp only [Bool.false_eq_true, if_false] at h
    split at h
    · rename_i c u r' hu
      cases h
      obtain ⟨ys, h1, h2⟩ := outTC_ok2 8 s hu
      refine ⟨ys, ?_, h2⟩
      simp only [leaveR, Bool.false_eq_true, if_false]
      have : reiL (rei 8) (rX r) (txL xs) = some (ys, rX r') := h1
      rw [this]; rfl
    · cases h
theorem all2_len {α β : Type} {R : α → β → Prop} : ∀ {xs : List α} {ys : List β}, All2 R xs ys → xs.length = ys.length
  | _, _, .nil => rfl
  | _, _, .cons _ h => by simp [all2_len h]
theorem leave_len {fr : Bool} {r : Nat → Option X} : ∀ {xs ys : List X}, leaveR fr r xs = some ys → ys.length = xs.length := by
  intro xs ys h
  unfold leaveR at h
  split at h
  · have : ∀ {xs ys : List X}, frzL r xs = some ys → ys.length = xs.length := by
      intro xs
      induction xs with
      | nil => intro ys h; simp only [frzL, Option.some.injEq] at h; subst h; rfl
      | cons x xs ih =>
        intro ys h
        simp only [frzL] at h
        split at h
        · rename_i y zs h1 h2
          cases h
          simp [ih h2]
        · cases h
    exact this h
  · have : ∀ {xs : List X} {r : Nat → Option X} {q}, reiL (rei 8) r xs = some q → q.1.length = xs.length := by
      intro xs
      induction xs with
      | nil => intro r q h; simp only [reiL, Option.some.injEq] at h; subst h; rfl
      | cons x xs ih =>
        intro r q h
        simp only [reiL] at h
        split at h
        · obtain ⟨p, hp, rfl⟩ := Option.map_eq_some_iff.1 h
          simp [ih hp]
        · cases h
    obtain ⟨q, hq, rfl⟩ := Option.map_eq_some_iff.1 h
    exact this hq
/-- The result, read as its shape says. -/
def OneLe (y z : X) : Prop := ∀ w F v bs, RoV w F y v bs → RoV w F z v bs
theorem roV_one {w : World} {F : Nat → Prop} {x : X} {v : Value} {bs : List Nat} (h : x.isTup = false) : RoV w F x v bs ↔ ∃ cs, Ro w F x cs bs ∧ v = val x cs := by
  cases x <;> first | exact Iff.rfl | simp [X.isTup] at h
theorem embR_tup : ∀ (s : RSh) (v : s.den), (match s with | .tup _ => False | .un => False | _ => True) → (embR s v).isTup = false
  | .ty τ, v, _ => embX_tup τ v
  | .ow _ _, v, _ | .ag _, v, _ | .pr _ _, v, _ | .ob _, v, _ | .np, v, _ => by simp [embR, X.isTup]
  | .opt _, v, _ => by cases v <;> simp [embR, X.isTup]
  | .tup _, v, h | .un, v, h => h.elim
theorem one1 {y z : X} (h : RoLe y z) (hz : z.isTup = false) : OneLe y z := by
  intro w F v bs h1
  have ht' : y.isTup = false := by rw [← h.2.2.2.2]; exact hz
  rw [roV_one ht'] at h1
  rw [roV_one hz]
  obtain ⟨cs, h2, h3⟩ := h1
  exact ⟨cs, h.1 _ _ _ _ h2, by rw [h3]; simp only [val, h.2.2.2.1]⟩
theorem emb1 : ∀ (s : RSh) (v : s.den) (z : X), (match s with | .tup _ => False | .un => False | .pr _ _ => False | _ => True) → embRC s v = [z] → z = embR s v
  | .ty τ, v, z, _, h => by simpa [embRC, embR] using h.symm
  | .ow _ _, v, z, _, h => by simpa [embRC, embR] using h.symm
  | .ag _, v, z, _, h => by simpa [embRC, embR] using h.symm
  | .ob _, v, z, _, h => by simpa [embRC, embR] using h.symm
  | .opt _, v, z, _, h => by cases v <;> simpa [embRC, embR] using h.symm
  | .np, v, z, _, h => by simpa [embRC, embR] using h.symm
  | .tup _, v, z, h, _ | .un, v, z, h, _ | .pr _ _, v, z, h, _ => h.elim
theorem oneX_many {ys : List X} (h : 2 ≤ ys.length) : oneX ys = .tup ys := by
  match ys, h with
  | _ :: _ :: _, _ => rfl
theorem fin_one {T : TT} {fr : Bool} {rs : List ResultVar} {s : RSh} {S : TS} {r : Nat → Option TX} {v : s.den} (hs : match s with | .tup _ => False | .un => False | .pr _ _ => False | _ => True) (h : (match resT T S rs with
    | some (p, xs) => if xs.length = 1 then (match finC fr s r xs with
      | some (q, v) => some (p && q, v)
      | none => none) else none
    | none => none) = some (true, v)) : ∃ xs ys, resX T S.x rs = some xs ∧ leaveR fr (rX r) xs = some ys ∧ OneLe (oneX ys) (embR s v) := by
  split at h
  · rename_i p xs hx
    split at h
    · rename_i hl
      split at h
      · rename_i q u hu
        simp only [Option.some.injEq, Prod.mk.injEq, Bool.and_eq_true] at h
        obtain ⟨⟨rfl, rfl⟩, rfl⟩ := h
        obtain ⟨ys, e1, e2⟩ := finC_ok hu
        refine ⟨_, ys, resT_ok hx, e1, ?_⟩
        have hy : ys.length = 1 := by rw [leave_len e1, txL_len]; exact hl
        match ys, hy, e2 with
        | [y], _, e2 =>
          cases hz : embRC s u with
          | nil => rw [hz] at e2; cases e2
          | cons z zs =>
            rw [hz] at e2
            cases e2 with
            | cons hr hrs =>
              cases hrs
              have := emb1 s u z hs hz
              subst this
              exact one1 hr (embR_tup s u (by cases s <;> first | trivial | exact hs.elim))
      · cases h
    · cases h
  · cases h
theorem fin_ok {T : TT} {fr : Bool} {rs : List ResultVar} : ∀ {s : RSh} {S : TS} {r : Nat → Option TX} {v : s.den}, finT T fr rs S r s = some (true, v) → ∃ xs ys, resX T S.x rs = some xs ∧ leaveR fr (rX r) xs = some ys ∧ OneLe (oneX ys) (embR s v)
  | .tup c, S, r, v, h => by
    simp only [finT] at h
    split at h
    · rename_i p xs hx
      split at h
      · rename_i hl
        split at h
        · rename_i q u hu
          have h3 := congrArg (fun o => (o.getD (false, v)).1) h
          have h4 := congrArg (fun o => (o.getD (false, v)).2) h
          simp only [Option.getD_some, Bool.and_eq_true] at h3 h4
          obtain ⟨rfl, rfl⟩ := h3
          subst h4
          obtain ⟨ys, e1, e2⟩ := finC_ok hu
          refine ⟨_, ys, resT_ok hx, e1, ?_⟩
          have hy : 2 ≤ ys.length := by rw [leave_len e1, txL_len]; exact hl
          rw [oneX_many hy]
          rintro w F v bs ⟨vs, e, hv⟩
          exact ⟨vs, e, roVL_of hv e2⟩
        · cases h
      · cases h
    · cases h
  | .un, S, r, v, h => by
    simp only [finT] at h
    split at h
    · rename_i p xs hx
      split at h
      · rename_i hl
        have h3 := congrArg (fun o => (o.getD (false, v)).1) h
        simp only [Option.getD_some] at h3
        subst h3
        rw [List.isEmpty_iff] at hl
        subst hl
        refine ⟨[], [], resT_ok hx, by cases fr <;> rfl, ?_⟩
        exact fun w F v bs h => h
      · cases h
    · cases h
  | .pr _ _, S, r, v, h => by simp [finT] at h
  | .ty τ, S, r, v, h => fin_one (s := .ty τ) trivial h
  | .ow d τ, S, r, v, h => fin_one (s := .ow d τ) trivial h
  | .ag c, S, r, v, h => fin_one (s := .ag c) trivial h
  | .ob c, S, r, v, h => fin_one (s := .ob c) trivial h
  | .opt c, S, r, v, h => fin_one (s := .opt c) trivial h
  | .np, S, r, v, h => fin_one (s := .np) trivial h
/-- What a function hands back: what comes back of its parameters, its results. -/
def finO (T : TT) (fr : Bool) (ps : List PSh) (rs : RSh) (res : List ResultVar) (S : TS) : Option (Bool × pairD rs (osOf ps)) :=
  match outsT ps 0 S.r with
  | some (c, u, r) => match finT T fr res S r rs with
    | some (c', v) => some (c && c', pairD.mk (osOf ps) v u)
    | none => none
  | none => none
theorem finO_ok {T : TT} {fr : Bool} {ps : List PSh} {rs : RSh} {res : List ResultVar} {S : TS} {v : pairD rs (osOf ps)} (h : finO T fr ps rs res S = some (true, v)) (a : pden ps) :
    ∃ xs q, resX T S.x res = some xs ∧ leaveO { md := mdL ps, fr := fr } (mkP ps a) S.x xs = some q ∧ OneLe (oneX q.1) (embR rs (pairD.fst (osOf ps) v)) ∧ ((hasIo (mdL ps) = true ∧ OutLe q.2 (outEmb ps (pairD.snd (osOf ps) v))) ∨ (hasIo (mdL ps) = false ∧ q.2 = [])) := by
  unfold finO at h
  split at h
  · rename_i c u r1 ho
    split at h
    · rename_i c' v' hf
      have e1 := congrArg (fun o => (o.getD (false, v)).1) h
      have e2 := congrArg (fun o => (o.getD (false, v)).2) h
      simp only [Option.getD_some, Bool.and_eq_true] at e1 e2
      obtain ⟨rfl, rfl⟩ := e1
      subst e2
      rw [pairD.fst_mk, pairD.snd_mk]
      obtain ⟨xs, ys, h1, h2, h3⟩ := fin_ok hf
      obtain ⟨os, o1, o2⟩ := outsT_ok (ms := mdL ps) a (fun i => by simp) ho
      by_cases hio : hasIo (mdL ps) = true
      · refine ⟨xs, (ys, os), h1, ?_, h3, .inl ⟨hio, o2⟩⟩
        have o1' : outsX (mdL ps) 0 (mkP ps a) S.x.r = some (os, rX r1) := o1
        simp only [leaveO, hio, if_true, o1']
        unfold leaveR at h2
        rw [h2]; rfl
      · have hio' : hasIo (mdL ps) = false := by simpa using hio
        refine ⟨xs, (ys, []), h1, ?_, h3, .inr ⟨hio', rfl⟩⟩
        have hr : rX r1 = S.x.r := by
          have : ∀ {ps : List PSh} {j : Nat} {r r1 : Nat → Option TX} {c : Bool} {u : oden (osOf ps)}, hasIo (mdL ps) = false → outsT ps j r = some (c, u, r1) → r1 = r := by
            intro ps
            induction ps with
            | nil => intro j r r1 c u _ h; exact (congrArg (fun o => (o.getD (false, u, r)).2.2) h).symm
            | cons p ps ih =>
              intro j r r1 c u hh h
              cases p with
              | io s s' => simp [mdL, PSh.md, hasIo] at hh
              | d τ => simp only [outsT] at h; exact ih (by simpa [mdL, PSh.md, hasIo] using hh) h
              | f τ => simp only [outsT] at h; exact ih (by simpa [mdL, PSh.md, hasIo] using hh) h
              | p τ => simp only [outsT] at h; exact ih (by simpa [mdL, PSh.md, hasIo] using hh) h
              | ow s => simp only [outsT] at h; exact ih (by simpa [mdL, PSh.md, hasIo] using hh) h
          rw [this hio' ho]; rfl
        rw [hr] at h2
        have h2' : leave fr S.x xs = some ys := h2
        simp only [leaveO, hio', Bool.false_eq_true, if_false, h2', Option.map_some]
    · cases h
  · cases h
end Go.EV
