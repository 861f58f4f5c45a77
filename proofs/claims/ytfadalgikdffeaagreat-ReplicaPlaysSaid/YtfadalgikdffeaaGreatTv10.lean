/- A function on typed values: its parameters, its results. -/
import Derived.Test.YtfadalgikdffeaaGreatTv9
set_option linter.unusedVariables false
set_option linter.unusedSimpArgs false
namespace Go.EV
open Go.RowKit
/-- A parameter, with its places. -/
def mkP1T (j : Nat) : (p : PSh) → p1den p → TX × List (Nat × TX)
  | .f τ, v => (.sl true τ v, [])
  | .d τ, v => (emb τ v, [])
  | .p τ, v => (.pf (emb τ v), [])
  | .ow s, v => ((impR (parNm j) s v 0).1, (impR (parNm j) s v 0).2.1)
  | .io s _, v => ((impR (parNm j) s v 0).1, (impR (parNm j) s v 0).2.1)
def mkPT : (ps : List PSh) → pden ps → Nat → List TX × List (Nat × TX)
  | [], _, _ => ([], [])
  | [p], v, j => ([(mkP1T j p v).1], (mkP1T j p v).2)
  | p :: q :: ps, v, j => ((mkP1T j p v.1).1 :: (mkPT (q :: ps) v.2 (j + 1)).1, (mkP1T j p v.1).2 ++ (mkPT (q :: ps) v.2 (j + 1)).2)
theorem mkP1T_x (j : Nat) : ∀ (p : PSh) (v : p1den p), (imp (parNm j) 0 (mkP1 p v)).1 = (mkP1T j p v).1.x ∧ (imp (parNm j) 0 (mkP1 p v)).2.1 = newsX (mkP1T j p v).2
  | .f τ, v => ⟨rfl, rfl⟩
  | .d τ, v => by
    have := imp_fz (parNm j) 0 _ (embX_fz τ v)
    constructor
    · show (imp (parNm j) 0 (embX τ v)).1 = _
      rw [this]; exact (emb_x τ v).symm
    · show (imp (parNm j) 0 (embX τ v)).2.1 = _
      rw [this]; rfl
  | .p τ, v => ⟨congrArg X.pf (emb_x τ v).symm, rfl⟩
  | .ow s, v => by
    have := impR_ok (parNm j) s v 0
    constructor
    · show (imp (parNm j) 0 (embR s v)).1 = _
      rw [this]; rfl
    · show (imp (parNm j) 0 (embR s v)).2.1 = _
      rw [this]; rfl
  | .io s s', v => by
    have := impR_ok (parNm j) s v 0
    constructor
    · show (imp (parNm j) 0 (embR s v)).1 = _
      rw [this]; rfl
    · show (imp (parNm j) 0 (embR s v)).2.1 = _
      rw [this]; rfl
theorem mkPT_x : ∀ (ps : List PSh) (v : pden ps) (j : Nat), enterX j (mkP ps v) = (txL (mkPT ps v j).1, newsX (mkPT ps v j).2)
  | [], _, _ => rfl
  | [p], v, j => by
    obtain ⟨h1, h2⟩ := mkP1T_x j p v
    simp only [mkP, enterX, h1, h2, mkPT, txL, List.append_nil]
  | p :: q :: ps, v, j => by
    obtain ⟨h1, h2⟩ := mkP1T_x j p v.1
    have ih := mkPT_x (q :: ps) v.2 (j + 1)
    have e1 : mkP (p :: q :: ps) v = mkP1 p v.1 :: mkP (q :: ps) v.2 := rfl
    have e2 : mkPT (p :: q :: ps) v j = ((mkP1T j p v.1).1 :: (mkPT (q :: ps) v.2 (j + 1)).1, (mkP1T j p v.1).2 ++ (mkPT (q :: ps) v.2 (j + 1)).2) := rfl
    rw [e1, e2]
    simp only [enterX, h1, h2, ih, txL, newsX_append]
def entryT (ps : List PSh) (a : pden ps) : Option TS :=
  match addRT elim (fun _ => none) (mkPT ps a 0).2 with
  | some r => some { t := fun v => (mkPT ps a 0).1.getD v .bot, r := r }
  | none => none
theorem entryT_x {ps : List PSh} {a : pden ps} {S : TS} (h : entryT ps a = some S) : enter (mkP ps a) = some S.x := by
  unfold entryT at h
  split at h
  · rename_i r hr
    cases h
    have h1 : addR elim (fun _ => none) (newsX (mkPT ps a 0).2) = some (rX r) := addRT_ok hr
    simp only [enter, mkPT_x, h1, TS.x, Option.some.injEq, St.mk.injEq, and_true]
    funext v
    simp only [List.getD_eq_getElem?_getD, txL_get]
    cases (mkPT ps a 0).1[v]? <;> simp [TX.x]
  · cases h
def pHead {p : PSh} : (ps : List PSh) → pden (p :: ps) → p1den p
  | [], v => v
  | _ :: _, v => v.1
def pTail {p : PSh} : (ps : List PSh) → pden (p :: ps) → pden ps
  | [], _ => ()
  | _ :: _, v => v.2
theorem mkP_cons {p : PSh} : ∀ (ps : List PSh) (a : pden (p :: ps)), mkP (p :: ps) a = mkP1 p (pHead ps a) :: mkP ps (pTail ps a)
  | [], _ => rfl
  | _ :: _, _ => rfl
/-! ### what comes back -/
def topTX (j : Nat) : RSh → Option TX
  | .ob _ => some (.pt (parNm j 0) [])
  | .ow _ _ => some (.hw (parNm j 0))
  | .ty _ | .ag _ | .tup _ | .pr _ _ | .opt _ | .np | .un => none
theorem topTX_ok {j : Nat} {s : RSh} {x : TX} (v : s.den) (h : topTX j s = some x) : topX j (embR s v) = some x.x := by
  cases s <;> simp only [topTX, reduceCtorEq, Option.some.injEq] at h <;> subst h <;> rfl
def outsT : (ps : List PSh) → Nat → (Nat → Option TX) → Option (Bool × oden (osOf ps) × (Nat → Option TX))
  | [], _, r => some (true, (), r)
  | .io s s' :: ps, j, r => match topTX j s with
    | some x => match outT 7 s' r x with
      | some (c, v, r1) => match outsT ps (j + 1) r1 with
        | some (c', u, r2) => some (c && c', oCons (osOf ps) v u, r2)
        | none => none
      | none => none
    | none => none
  | .d _ :: ps, j, r => outsT ps (j + 1) r
  | .f _ :: ps, j, r => outsT ps (j + 1) r
  | .p _ :: ps, j, r => outsT ps (j + 1) r
  | .ow _ :: ps, j, r => outsT ps (j + 1) r
def OutLe : List X → List X → Prop := All2 fun y z => (y = .bot ∧ z = .bot) ∨ (y ≠ .bot ∧ RoLe y z)
theorem roB_le {w : World} {F : Nat → Prop} : ∀ {ys zs : List X} {vs : List Value} {bs : List Nat}, OutLe ys zs → RoB w F ys vs bs → RoB w F zs vs bs
  | _, _, vs, bs, .nil, h => h
  | y :: ys, z :: zs, vs, bs, .cons h1 h2, h => by
    simp only [RoB] at h ⊢
    obtain ⟨v, vs', b1, b2, e1, e2, h3, h4⟩ := h
    refine ⟨v, vs', b1, b2, e1, e2, ?_, roB_le h2 h4⟩
    rcases h1 with ⟨rfl, rfl⟩ | ⟨hb, h1⟩
    · exact h3
    · rcases h3 with ⟨h3, _⟩ | ⟨cs, h5, h6⟩
      · exact absurd h3 hb
      · exact .inr ⟨cs, h1.1 _ _ _ _ h5, by rw [h6]; simp only [val, h1.2.2.2.1]⟩
theorem roB_bots {w : World} {F : Nat → Prop} : ∀ {zs : List X} {vs : List Value}, (∀ z ∈ zs, z = .bot) → vs.length = zs.length → RoB w F zs vs []
  | [], vs, _, _ => by simp [RoB]
  | z :: zs, [], _, hl => by simp at hl
  | z :: zs, v :: vs, h, hl => by
    simp only [RoB]
    exact ⟨v, vs, [], [], rfl, rfl, .inl ⟨h z (by simp), rfl⟩, roB_bots (fun y hy => h y (by simp [hy])) (by simpa using hl)⟩
theorem outEmb_bots : ∀ {ps : List PSh} (v : oden (osOf ps)), hasIo (mdL ps) = false → ∀ z ∈ outEmb ps v, z = .bot
  | [], v, _, z, hz => by simp [outEmb] at hz
  | .io s s' :: ps, v, h, z, hz => by simp [mdL, PSh.md, hasIo] at h
  | .d τ :: ps, v, h, z, hz => by
    simp only [outEmb, List.mem_cons] at hz
    rcases hz with rfl | hz
    · rfl
    · exact outEmb_bots (ps := ps) v (by simpa [mdL, PSh.md, hasIo] using h) z hz
  | .f τ :: ps, v, h, z, hz => by
    simp only [outEmb, List.mem_cons] at hz
    rcases hz with rfl | hz
    · rfl
    · exact outEmb_bots (ps := ps) v (by simpa [mdL, PSh.md, hasIo] using h) z hz
  | .p τ :: ps, v, h, z, hz => by
    simp only [outEmb, List.mem_cons] at hz
    rcases hz with rfl | hz
    · rfl
    · exact outEmb_bots (ps := ps) v (by simpa [mdL, PSh.md, hasIo] using h) z hz
  | .ow s :: ps, v, h, z, hz => by
    simp only [outEmb, List.mem_cons] at hz
    rcases hz with rfl | hz
    · rfl
    · exact outEmb_bots (ps := ps) v (by simpa [mdL, PSh.md, hasIo] using h) z hz
theorem outEmb_len : ∀ {ps : List PSh} (v : oden (osOf ps)), (outEmb ps v).length = ps.length
  | [], v => rfl
  | .io s s' :: ps, v => by simp only [outEmb, List.length_cons, outEmb_len (ps := ps)]
  | .d τ :: ps, v => by simp only [outEmb, List.length_cons]; exact congrArg (· + 1) (outEmb_len (ps := ps) v)
  | .f τ :: ps, v => by simp only [outEmb, List.length_cons]; exact congrArg (· + 1) (outEmb_len (ps := ps) v)
  | .p τ :: ps, v => by simp only [outEmb, List.length_cons]; exact congrArg (· + 1) (outEmb_len (ps := ps) v)
  | .ow s :: ps, v => by simp only [outEmb, List.length_cons]; exact congrArg (· + 1) (outEmb_len (ps := ps) v)
theorem mkP_len : ∀ {ps : List PSh} (a : pden ps), (mkP ps a).length = ps.length
  | [], _ => rfl
  | p :: ps, a => by rw [mkP_cons]; simp only [List.length_cons, mkP_len]
theorem rei_top {r r' : Nat → Option X} {x y : X} {j : Nat} {s : RSh} {t : TX} (ht : topTX j s = some t) (h : reiX (rei 7) r t.x = some (y, r')) : y ≠ .bot := by
  cases s <;> simp only [topTX, reduceCtorEq, Option.some.injEq] at ht <;> subst ht <;> simp only [TX.x, offOf, keysOf, List.map_nil, reiX, and_self, if_true] at h
  · split at h
    · simp only [Option.some.injEq, Prod.mk.injEq] at h; rw [← h.1]; simp
    · cases h
  · split at h
    · split at h
      · obtain ⟨q, _, hq⟩ := Option.map_eq_some_iff.1 h
        simp only [Prod.mk.injEq] at hq
        rw [← hq.1]; simp
      · cases h
    · cases h
theorem outsT_ok {ms : List Md} : ∀ {ps : List PSh} {j : Nat} {r r1 : Nat → Option TX} {u : oden (osOf ps)} (a : pden ps), (∀ i, ms.getD (j + i) .rd = (mdL ps).getD i .rd) → outsT ps j r = some (true, u, r1) → ∃ os, outsX ms j (mkP ps a) (rX r) = some (os, rX r1) ∧ OutLe os (outEmb ps u)
  | [], j, r, r1, u, a, hm, h => by
    simp only [outsT, Option.some.injEq, Prod.mk.injEq, true_and] at h
    obtain ⟨_, rfl⟩ := h
    exact ⟨[], rfl, .nil⟩
  | .io s s' :: ps, j, r, r1, u, a, hm, h => by
    simp only [outsT] at h
    split at h
    · rename_i x hx
      split at h
      · rename_i c v rm ho
        split at h
        · rename_i c' w rn hr
          have e1 := congrArg (fun o => (o.getD (false, u, r)).1) h
          have e2 := congrArg (fun o => (o.getD (false, u, r)).2.1) h
          have e3 := congrArg (fun o => (o.getD (false, u, r)).2.2) h
          simp only [Option.getD_some, Bool.and_eq_true] at e1 e2 e3
          obtain ⟨rfl, rfl⟩ := e1
          subst e2; subst e3
          obtain ⟨y, y1, y2⟩ := outT_ok 7 s' ho
          obtain ⟨os, o1, o2⟩ := outsT_ok (ps := ps) (pTail ps a) (fun i => by have := hm (i + 1); simp only [mdL, List.getD_cons_succ] at this; rw [← this]; congr 1; omega) hr
          have hmd : ms.getD j .rd = .io := by have := hm 0; simpa [mdL, PSh.md] using this
          refine ⟨y :: os, ?_, .cons (.inr ⟨rei_top (x := x.x) hx y1, ?_⟩) ?_⟩
          · rw [mkP_cons]
            have htop : topX j (mkP1 (.io s s') (pHead ps a)) = some x.x := topTX_ok (pHead ps a) hx
            have y1' : rei 8 (rX r) x.x = some (y, rX rm) := y1
            simp only [outsX, hmd, htop, y1', o1, Option.map_some]
          · rw [oHead_cons]; exact y2
          · rw [oTail_cons]; exact o2
        · cases h
      · cases h
    · cases h
  | .d τ :: ps, j, r, r1, u, a, hm, h => by
    simp only [outsT] at h
    obtain ⟨os, o1, o2⟩ := outsT_ok (ps := ps) (pTail ps a) (fun i => by have := hm (i + 1); simp only [mdL, List.getD_cons_succ] at this; rw [← this]; congr 1; omega) h
    have hmd : ms.getD j .rd = .rd := by have := hm 0; simpa [mdL, PSh.md] using this
    exact ⟨.bot :: os, by rw [mkP_cons]; simp only [outsX, hmd, o1, Option.map_some], .cons (.inl ⟨rfl, rfl⟩) o2⟩
  | .f τ :: ps, j, r, r1, u, a, hm, h => by
    simp only [outsT] at h
    obtain ⟨os, o1, o2⟩ := outsT_ok (ps := ps) (pTail ps a) (fun i => by have := hm (i + 1); simp only [mdL, List.getD_cons_succ] at this; rw [← this]; congr 1; omega) h
    have hmd : ms.getD j .rd = .rd := by have := hm 0; simpa [mdL, PSh.md] using this
    exact ⟨.bot :: os, by rw [mkP_cons]; simp only [outsX, hmd, o1, Option.map_some], .cons (.inl ⟨rfl, rfl⟩) o2⟩
  | .p τ :: ps, j, r, r1, u, a, hm, h => by
    simp only [outsT] at h
    obtain ⟨os, o1, o2⟩ := outsT_ok (ps := ps) (pTail ps a) (fun i => by have := hm (i + 1); simp only [mdL, List.getD_cons_succ] at this; rw [← this]; congr 1; omega) h
    have hmd : ms.getD j .rd = .rd := by have := hm 0; simpa [mdL, PSh.md] using this
    exact ⟨.bot :: os, by rw [mkP_cons]; simp only [outsX, hmd, o1, Option.map_some], .cons (.inl ⟨rfl, rfl⟩) o2⟩
  | .ow s :: ps, j, r, r1, u, a, hm, h => by
    simp only [outsT] at h
    obtain ⟨os, o1, o2⟩ := outsT_ok (ps := ps) (pTail ps a) (fun i => by have := hm (i + 1); simp only [mdL, List.getD_cons_succ] at this; rw [← this]; congr 1; omega) h
    have hmd : ms.getD j .rd = .ow := by have := hm 0; simpa [mdL, PSh.md] using this
    exact ⟨.bot :: os, by rw [mkP_cons]; simp only [outsX, hmd, o1, Option.map_some], .cons (.inl ⟨rfl, rfl⟩) o2⟩
/-- The results, one by one. -/
def resT (T : TT) (S : TS) : List ResultVar → Option (Bool × List TX)
  | [] => some (true, [])
  | .tmp t :: l => match resT T S l with
    | some (c, xs) => some (c, S.t t :: xs)
    | none => none
  | .cell a t :: l => match ldVT T S.r t (S.t a) with
    | some (c, x) => match resT T S l with
      | some (c', xs) => some (c && c', x :: xs)
      | none => none
    | none => none
theorem resT_ok {T : TT} {S : TS} : ∀ {l : List ResultVar} {xs : List TX}, resT T S l = some (true, xs) → resX T S.x l = some (txL xs)
  | [], xs, h => by simp only [resT, Option.some.injEq, Prod.mk.injEq, true_and] at h; subst h; rfl
  | .tmp t :: l, xs, h => by
    simp only [resT] at h
    split at h
    · rename_i c ys hy
      simp only [Option.some.injEq, Prod.mk.injEq] at h
      obtain ⟨rfl, rfl⟩ := h
      simp only [resX, resT_ok hy, Option.map_some, txL]
      rfl
    · cases h
  | .cell a t :: l, xs, h => by
    simp only [resT] at h
    split at h
    · rename_i c x hx
      split at h
      · rename_i c' ys hy
        simp only [Option.some.injEq, Prod.mk.injEq, Bool.and_eq_true] at h
        obtain ⟨⟨rfl, rfl⟩, rfl⟩ := h
        have h1 : ldV T S.x.r t (S.x.t a) = some x.x := ldVT_ok hx
        simp only [resX, h1, resT_ok hy, txL]
      · cases h
    · cases h
end Go.EV
