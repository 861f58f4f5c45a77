/- Every function of the table, at every depth; loops' heads. -/
import Derived.Test.YtfadalgikdffeaaGreatEv17
import Derived.Lib.SliceRun
set_option linter.unusedVariables false
set_option linter.unusedSimpArgs false
namespace Go.EV
open Go.RowKit
def fnChk (P : Program) (T : TT) (an : FuncId → An) (f : FuncId) : Bool :=
  match P.funcs[f]? with
  | some fn => fn.body.any (chkC T an fn.ntmps) && fn.name != "runtime.NumGoroutine"
  | none => false
/-- The program's functions, those of the list alone. -/
def fnsOf (P : Program) (dom : List Nat) : FuncId → Option Func := fun f => if dom.contains f then P.funcs[f]? else none
theorem okDst_mono {N M : Nat} (h : N ≤ M) {o : Oper} (ho : okDst N o = true) : okDst M o = true := by
  unfold okDst at ho ⊢
  split
  · rename_i d hd
    rw [hd] at ho
    simp only [decide_eq_true_eq] at ho ⊢
    exact Nat.lt_of_lt_of_le ho h
  · rfl
theorem chkC_mono {T : TT} {an : FuncId → An} {N M : Nat} (h : N ≤ M) : ∀ {c : Code}, chkC T an N c = true → chkC T an M c = true
  | .region _ ops d, hc => by
    simp only [chkC, Bool.and_eq_true] at hc ⊢
    exact ⟨List.all_eq_true.2 fun o ho => okDst_mono h (List.all_eq_true.1 hc.1 o ho), hc.2⟩
  | .seq a b, hc => by simp only [chkC, Bool.and_eq_true] at hc ⊢; exact ⟨chkC_mono h hc.1, chkC_mono h hc.2⟩
  | .cond _ a b, hc => by simp only [chkC, Bool.and_eq_true] at hc ⊢; exact ⟨chkC_mono h hc.1, chkC_mono h hc.2⟩
  | .block _ b, hc => by simp only [chkC] at hc ⊢; exact chkC_mono h hc
  | .loop b, hc => by simp only [chkC] at hc ⊢; exact chkC_mono h hc
  | .scope b, hc => by simp only [chkC] at hc ⊢; exact chkC_mono h hc
  | .skip, _ | .exit _, _ | .label _, _ | .ret, _ | .rangeFunc _ _ _ _, _ | .goto _, _ | .refuse _, _ => rfl
section
variable {P : Program} {T : TT} {w0 : World} {F0 F : Nat → Prop} {Pb : PB} {A : Nat → Option RA} {S : St} {tm : Nat → Value} {w : World}
mutual
theorem rf_fz : ∀ {x : X} {cs : List Value}, Rf w F x cs → x.fz = true
  | .ag xs, cs, h => by simp only [Rf] at h; simp only [X.fz]; exact rfL_fz h
  | .b v, cs, h | .i k n, cs, h | .s l, cs, h | .ar d xs, cs, h | .sl f xs, cs, h | .np, cs, h | .pf x, cs, h | .nm, cs, h | .nf, cs, h => rfl
  | .bot, cs, h | .tup _, cs, h | .hw _, cs, h | .hd _ _ _ _, cs, h | .pt _ _ _, cs, h | .fn _ _, cs, h | .ow _ _, cs, h | .ob _, cs, h => by simp [Rf] at h
theorem rfL_fz : ∀ {xs : List X} {cs : List Value}, RfL w F xs cs → fzL xs = true
  | [], cs, h => rfl
  | x :: xs, cs, h => by
    simp only [RfL] at h
    obtain ⟨c1, c2, rfl, h1, h2⟩ := h
    simp [fzL, rf_fz h1, rfL_fz h2]
end
mutual
theorem imp_fz (nm : Nat → Nat) : ∀ (j : Nat) (x : X), x.fz = true → imp nm j x = (x, [], j)
  | j, .ag xs, h => by simp only [imp, impL_fz nm j xs (by simpa [X.fz] using h)]
  | j, .b v, h | j, .i k n, h | j, .s l, h | j, .ar d xs, h | j, .sl f xs, h | j, .np, h | j, .pf x, h | j, .nm, h | j, .nf, h => rfl
  | j, .bot, h | j, .tup _, h | j, .hw _, h | j, .hd _ _ _ _, h | j, .pt _ _ _, h | j, .fn _ _, h | j, .ow _ _, h | j, .ob _, h => by simp [X.fz] at h
theorem impL_fz (nm : Nat → Nat) : ∀ (j : Nat) (xs : List X), fzL xs = true → impL nm j xs = (xs, [], j)
  | j, [], h => rfl
  | j, x :: xs, h => by
    simp only [fzL, Bool.and_eq_true] at h
    simp only [impL, imp_fz nm j x h.1, impL_fz nm j xs h.2, List.nil_append]
end
theorem enterX_fz : ∀ {ts : List X} {vs : List Value} (j : Nat), All2 (fun y v => ∃ cs, Rf w F y cs ∧ v = val y cs) ts vs → enterX j ts = (ts, [])
  | _, _, j, .nil => rfl
  | y :: ys, _, j, .cons hy hys => by
    obtain ⟨cs, h1, _⟩ := hy
    simp only [enterX, imp_fz _ _ _ (rf_fz h1), enterX_fz (j + 1) hys, List.nil_append]
theorem enterX_ok (hp : ∀ g ra, Pb.pin g ra) : ∀ {ts : List X} {vs : List Value} {bi : List Nat} {j : Nat} {S : St} {A : Nat → Option RA} {r' : Nat → Option X}, Inv w0 F0 Pb F A S tm w → RoVL w F ts vs bi → Free w0 Pb F w A bi → addR elim S.r (enterX j ts).2 = some r' →
    ∃ A', Inv w0 F0 Pb F A' { S with r := r' } tm w ∧ ASub A A' ∧ All2 (fun x v => R1 w F A' x v) (enterX j ts).1 vs
  | [], vs, bi, j, S, A, r', h, hr, hf, ha => by
    simp only [RoVL] at hr
    obtain ⟨rfl, rfl⟩ := hr
    simp only [enterX, addR, Option.some.injEq] at ha ⊢
    subst ha
    exact ⟨A, h, fun _ _ h => h, .nil⟩
  | x :: ts, vs, bi, j, S, A, r', h, hr, hf, ha => by
    simp only [RoVL] at hr
    obtain ⟨v, vs', cs, b1, b2, rfl, rfl, h1, hv, hr⟩ := hr
    simp only [enterX] at ha ⊢
    rw [addR_append] at ha
    obtain ⟨r1, ha1, ha2⟩ := Option.bind_eq_some_iff.1 ha
    obtain ⟨A1, hI1, s1, q1, p1⟩ := imp_ok (fun g ra _ _ => hp g ra) h h1 hf.left ha1
    obtain ⟨A2, hI2, s2, q2⟩ := enterX_ok hp hI1 hr (hf.right p1) ha2
    refine ⟨A2, hI2, fun k rb hk => s2 k rb (s1 k rb hk), .cons ⟨cs, rc_mono (fun _ h => h) (fun _ _ => rfl) s2 q1, by rw [hv]; simp [val, agg_imp]⟩ q2⟩
theorem all2_get : ∀ {ts : List X} {vs : List Value}, All2 (fun x v => R1 w F A x v) ts vs → ∀ (u : Nat) (k : List Value), Rv w F A (ts.getD u .bot) ((vs ++ k).getD u undef)
  | _, _, .nil, u, k => by simp [Rv]
  | y :: ys, v :: vs, .cons hy hys, 0, k => by
    exact hy.rv
  | y :: ys, v :: vs, .cons hy hys, u + 1, k => by simpa using all2_get hys u k
theorem enter_ok {ts : List X} {vs : List Value} {bi : List Nat} (h : RoVL w F ts vs bi) (hnd : bi.Nodup) (hbi : ∀ b ∈ bi, ¬ F b ∧ b < w.heap.size) (hF : ∀ b, F b → b < w.heap.size) {S0 : St} (hS : enter ts = some S0) (n : Nat) :
    ∃ AE : Nat → Option RA, InvA w F ⟨fun b => b ∈ bi, fun g ra => AE g = some ra⟩ (vs.toArray ++ Array.replicate (n - vs.toArray.size) undef).size S0 { tmps := vs.toArray ++ Array.replicate (n - vs.toArray.size) undef, defers := [] } w ∧ All2 (fun x v => R1 w F AE x v) (enterX 0 ts).1 vs := by
  unfold enter at hS
  simp only at hS
  split at hS
  · rename_i r hr
    cases hS
    let tm : Nat → Value := tmOf { tmps := vs.toArray ++ Array.replicate (n - vs.toArray.size) undef, defers := [] }
    have h0 : Inv w F ⟨fun b => b ∈ bi, fun _ _ => True⟩ F (fun _ => none) { t := fun _ => .bot, r := fun _ => none } tm w := ⟨rfl, rfl, rfl, Nat.le_refl _, fun _ _ _ => rfl, fun b hb => ⟨hF b hb, fun _ => .inl hb⟩, fun v => trivial, fun g x hx => (by cases hx), fun g ra hg => (by cases hg), fun g k ra rb h1 => (by cases h1), fun g ra hg => (by cases hg), fun g ra hg => (by cases hg), Shape.refl w⟩
    obtain ⟨AE, hI, _, hall⟩ := enterX_ok (fun _ _ => trivial) h0 h ⟨hnd, fun b hb => ⟨(hbi b hb).1, (hbi b hb).2, fun _ => hb, fun k rb hk => (by cases hk)⟩⟩ hr
    refine ⟨AE, ⟨rfl, rfl, F, AE, hI.os, hI.tape, hI.output, hI.size, hI.keep, hI.fo, fun v => ?_, hI.rv, hI.lv, hI.sep, hI.nw, fun g ra hg _ => hg, hI.shape⟩, hall⟩
    have := all2_get hall v (List.replicate (n - vs.toArray.size) undef)
    simp only [tmOf]
    have e : (vs.toArray ++ Array.replicate (n - vs.toArray.size) undef).getD v undef = (vs ++ List.replicate (n - vs.toArray.size) undef).getD v undef := by
      simp [Array.getD_eq_getD_getElem?, ← Array.getElem?_toList, List.getD_eq_getElem?_getD]
    rw [e]
    exact this
  · cases hS
/-- What goes back lies where it came from. -/
theorem outs_ok {AE : Nat → Option RA} {wE : World} {FE : Nat → Prop} (h : Inv w0 F0 Pb F A S tm w) (hpin : ∀ g ra, Pb.pin g ra → AE g = some ra) {ms : List Md} : ∀ {xs : List X} {j : Nat} {r : Nat → Option X} {q : List X × (Nat → Option X)} {vs : List Value}, (∀ g z, r g = some z → S.r g = some z) → outsX ms j xs r = some q → All2 (fun x v => R1 wE FE AE x v) (enterX j xs).1 vs →
    ∃ bo, RoB w F q.1 vs bo ∧ Taken A r q.2 bo
  | [], j, r, q, vs, hr, hq, hE => by
    simp only [outsX, Option.some.injEq] at hq
    subst hq
    exact ⟨[], by simp [RoB], Taken.refl _⟩
  | x :: xs, j, r, q, vs, hr, hq, hE => by
    simp only [enterX] at hE
    cases hE with
    | @cons _ v _ vs' hx hxs =>
      have skip : (outsX ms (j + 1) xs r).map (fun q => (X.bot :: q.1, q.2)) = some q → ∃ bo, RoB w F q.1 (v :: vs') bo ∧ Taken A r q.2 bo := by
        intro hq
        obtain ⟨p, hp, rfl⟩ := Option.map_eq_some_iff.1 hq
        obtain ⟨bo, k1, k2⟩ := outs_ok h hpin hr hp hxs
        exact ⟨bo, by simp only [RoB]; exact ⟨v, vs', [], bo, rfl, rfl, .inl (by simp), k1⟩, k2⟩
      simp only [outsX] at hq
      cases hm : ms.getD j .rd with
      | rd => rw [hm] at hq; exact skip hq
      | ow => rw [hm] at hq; exact skip hq
      | io =>
        rw [hm] at hq
        simp only at hq
        split at hq
        · rename_i u hu
          split at hq
          · rename_i y hy
            obtain ⟨p, hp, rfl⟩ := Option.map_eq_some_iff.1 hq
            have hy' : reiX (rei 7) r u = some (y.1, y.2) := hy
            have back : ∀ g x, r g = some x → nlim ≤ g → ∃ ra, A g = some ra ∧ AE g = some ra := by
              intro g x hg hl
              obtain ⟨ra, c, hA, _⟩ := h.rv g x (hr g x hg)
              exact ⟨ra, hA, hpin g ra (h.pin g ra hA hl)⟩
            have hpar : nlim ≤ parNm j 0 := by unfold parNm nlim; omega
            have hux : ∃ cs, Rc w F A u cs ∧ v = val u cs := by
              obtain ⟨cs, hcs, hv⟩ := hx
              unfold topX at hu
              split at hu
              · cases hu
                simp only [imp, Rc] at hcs
                obtain ⟨ra, hA, hc, rfl⟩ := hcs
                simp only [reiX, and_self, if_true] at hy'
                split at hy'
                · rename_i z hz
                  obtain ⟨ra', hA', hE'⟩ := back _ z hz hpar
                  rw [hA] at hE'; cases hE'
                  exact ⟨_, by simp only [Rc]; exact ⟨ra, hA', hc, rfl⟩, by rw [hv]; rfl⟩
                · cases hy'
              · cases hu
                simp only [imp, Rc] at hcs
                obtain ⟨ra, a, c, hA, rfl, g1, g2, g3⟩ := hcs
                simp only [reiX] at hy'
                split at hy'
                · rename_i d z hz
                  obtain ⟨ra', hA', hE'⟩ := back _ _ hz hpar
                  rw [hA] at hE'; cases hE'
                  exact ⟨_, by simp only [Rc]; exact ⟨ra, a, c, hA', rfl, g1, g2, g3⟩, by rw [hv]; rfl⟩
                · cases hy'
              · cases hu
            obtain ⟨cs, hcs, hv⟩ := hux
            obtain ⟨b1, o1, t1, _, _⟩ := reiX_ok h (rei_ok h 7) hr hy' hcs
            obtain ⟨b2, k1, k2⟩ := outs_ok h hpin (fun g z hz => hr g z (t1.2.2 g z hz)) hp hxs
            refine ⟨b1 ++ b2, ?_, t1.trans h k2⟩
            simp only [RoB]
            exact ⟨v, vs', b1, b2, rfl, rfl, .inr ⟨cs, o1, by rw [hv]; simp [val, (reiX_agg hy').1]⟩, k1⟩
          · cases hq
        · cases hq
theorem roB_mono {F' : Nat → Prop} (hF : ∀ b, F b → F' b) : ∀ {xs : List X} {vs : List Value} {bs : List Nat}, RoB w F xs vs bs → RoB w F' xs vs bs
  | [], vs, bs, h => h
  | x :: xs, vs, bs, h => by
    simp only [RoB] at h ⊢
    obtain ⟨v, vs', b1, b2, e1, e2, h1, h2⟩ := h
    refine ⟨v, vs', b1, b2, e1, e2, ?_, roB_mono hF h2⟩
    rcases h1 with h1 | ⟨cs, h1, h3⟩
    · exact .inl h1
    · exact .inr ⟨cs, ro_mono hF h1, h3⟩
theorem res_ok (hT : TOk P T) {a : Act} (h : Inv w0 F0 Pb F A S (tmOf a) w) : ∀ {rs : List ResultVar} {xs : List X}, resX T S rs = some xs → ∃ vs, (rs.mapM fun | .tmp t => pure (a.tmps.getD t undef) | .cell b t => do loadVar t (← asAddr (a.tmps.getD b undef)) : Sem (List Value)).run P w = .ok vs w ∧ All2 (fun x v => Rv w F A x v) xs vs
  | [], xs, hr => by
    simp only [resX, Option.some.injEq] at hr
    subst hr
    exact ⟨[], by simp, .nil⟩
  | .tmp t :: rs, xs, hr => by
    simp only [resX] at hr
    obtain ⟨ys, hys, rfl⟩ := Option.map_eq_some_iff.1 hr
    obtain ⟨vs, h1, h2⟩ := res_ok hT h hys
    exact ⟨a.tmps.getD t undef :: vs, by simp only [List.mapM_cons, Sem.run_bind, Sem.run_pure, Result.andThen_ok]; rw [h1]; rfl, .cons (h.tv t) h2⟩
  | .cell b t :: rs, xs, hr => by
    simp only [resX] at hr
    split at hr
    · rename_i x ys hx hys
      cases hr
      obtain ⟨vs, h1, h2⟩ := res_ok hT h hys
      obtain ⟨v, h3, h4⟩ := ldV_ok (P := P) hT hx (h.tv b) (fun g c hg => h.places.mem hg)
      have h5 : (do loadVar t (← asAddr (a.tmps.getD b undef)) : Sem Value).run P w = .ok v w := by
        unfold Instr.loadAt at h3
        simp only [tmOf] at h3
        cases hv : a.tmps.getD b undef with
        | pointer p =>
          rw [hv] at h3
          cases p with
          | none => simp [Instr.sureAddr] at h3
          | some q => simpa [Instr.sureAddr, asAddr] using h3
        | _ => rw [hv] at h3; simp [Instr.sureAddr] at h3
      refine ⟨v :: vs, ?_, .cons h4 h2⟩
      simp only [List.mapM_cons, Sem.run_bind] at h5 ⊢
      rw [h5]
      simp only [Result.andThen_ok]
      rw [h1]
      rfl
    · cases hr
theorem results_ok (hT : TOk P T) {a : Act} (h : Inv w0 F0 Pb F A S (tmOf a) w) {fn : Func} {xs : List X} (hr : resX T S fn.results.toList = some xs) : ∃ vs : List Value, (results fn a.tmps).run P w = .ok (if h : vs.toArray.size = 1 then vs.toArray[0] else .tuple vs.toArray) w ∧ All2 (fun x v => Rv w F A x v) xs vs := by
  obtain ⟨vs, h1, h2⟩ := res_ok hT h hr
  refine ⟨vs, ?_, h2⟩
  unfold results
  rw [Array.mapM_eq_mapM_toList]
  simp only [Sem.run_bind, Sem.run_map]
  have h3 : (fn.results.toList.mapM fun | .tmp t => pure (a.tmps.getD t undef) | .cell a_1 t => do loadVar t (← asAddr (a.tmps.getD a_1 undef)) : Sem (List Value)).run P w = .ok vs w := h1
  exact (congrArg (fun r => (Result.andThen r fun a w' => Result.ok a.toArray w').andThen fun a w' => Sem.run P (pure (if h : a.size = 1 then a[0] else Value.tuple a)) w') h3).trans rfl
theorem calls_fin (hT : TOk P T) {f : FuncId} {fn : Func} (hfn : P.funcs[f]? = some fn) {c : Code} (hc : fn.body = some c) {vs : List Value} {w : World} {F : Nat → Prop} {N : Nat} {an1 : An} {args : List X} {bi : List Nat} {AE : Nat → Option RA} (hE : All2 (fun x v => R1 w F AE x v) (enterX 0 args).1 vs) {G : List X × List X → Prop}
    (hwp : c.wp P (fun e' a w' => ∃ e S xs q, (e = .go ∨ e = .ret) ∧ resX T S fn.results.toList = some xs ∧ leaveO an1 args S xs = some q ∧ G q ∧ Post w F ⟨fun b => b ∈ bi, fun g ra => AE g = some ra⟩ N e S e' a w') { tmps := vs.toArray ++ Array.replicate (fn.ntmps - vs.toArray.size) undef, defers := [] } w) :
    Calls P f vs.toArray w fun e w' => ∃ q, G q ∧ ∃ v, e = .returned v ∧ Came w F vs bi (oneX q.1) q.2 v w' := by
  refine calls_of_wp hfn hc (wp_mono hwp ?_)
  rintro e' a w' ⟨e, S, xs, q, he, hres, hys, hG, rfl, hd, hsz, F1, A1, hI⟩
  obtain ⟨vals, hrun, hrv⟩ := results_ok hT hI hres
  have hbel : Bel bi w w' := ⟨hI.os, hI.tape, hI.output, hI.size, fun b hb hn => hI.keep b hb hn, hI.shape⟩
  have own : ∀ g ra, A1 g = some ra → 0 < ra.cap → ¬ F1 ra.b ∧ ra.b < w'.heap.size ∧ (ra.b < w.heap.size → ra.b ∈ bi) := fun g ra hA hc => by
    obtain ⟨n1, n2, n3⟩ := hI.nw g ra hA hc
    exact ⟨n3, n1, n2⟩
  -- frozen results
  have frozen : ∀ (r1 : Nat → Option X) (ys : List X) (outs : List X) (bo : List Nat), (∀ g z, r1 g = some z → S.r g = some z) → frzL r1 xs = some ys → RoB w' F1 outs vs bo → bo.Nodup → (∀ b ∈ bo, ∃ g ra, A1 g = some ra ∧ 0 < ra.cap ∧ ra.b = b ∧ r1 g = none) →
      Came w F vs bi (oneX ys) outs (if h : vals.toArray.size = 1 then vals.toArray[0] else .tuple vals.toArray) w' := by
    intro r1 ys outs bo hr hf hro hnd hbo
    let F2 : Nat → Prop := fun b => F1 b ∨ ∃ g ra, (r1 g).isSome = true ∧ A1 g = some ra ∧ 0 < ra.cap ∧ b = ra.b
    have hP : Places w' F1 A1 r1 := fun g c hg => hI.places g c (hr g c hg)
    have hv2 := frzL_vals (F' := F2) hP (fun b hb => .inl hb) hf (fun g hg ra hA hcp => .inr ⟨g, ra, by
      have := frzL_there hf g hg
      cases hh : r1 g with
      | none => exact absurd hh this
      | some z => rfl, hA, hcp, rfl⟩) hrv
    obtain ⟨l1, l2⟩ := leaveF_ok hv2
    refine ⟨F2, [], bo, hbel, oneX_ok l1 l2, roB_mono (fun b hb => .inl hb) hro, by simpa using hnd, fun b hb => ?_, ?_⟩
    · simp only [List.nil_append] at hb
      obtain ⟨g, ra, hA, hcp, rfl, hn⟩ := hbo b hb
      obtain ⟨o1, o2, o3⟩ := own g ra hA hcp
      refine ⟨?_, o2, o3⟩
      rintro (hf | ⟨g', ra', hs, hA', hcp', e⟩)
      · exact o1 hf
      · have hne : g ≠ g' := fun e => by subst e; rw [hn] at hs; cases hs
        exact hI.sep g g' ra ra' hA hA' hne hcp hcp' e
    · rintro b (hb | ⟨g, ra, _, hA, hcp, rfl⟩)
      · exact hI.fo b hb
      · obtain ⟨o1, o2, o3⟩ := own g ra hA hcp
        exact ⟨o2, fun hlt => .inr (o3 hlt)⟩
  have given : ∀ (r1 : Nat → Option X) (p : List X × (Nat → Option X)) (outs : List X) (bo : List Nat), (∀ g z, r1 g = some z → S.r g = some z) → reiL (rei 8) r1 xs = some p → RoB w' F1 outs vs bo → Taken A1 S.r r1 bo →
      Came w F vs bi (oneX p.1) outs (if h : vals.toArray.size = 1 then vals.toArray[0] else .tuple vals.toArray) w' := by
    intro r1 p outs bo hr hq hro ht
    obtain ⟨bs, l1, l2, l3⟩ := leaveR_ok hI hr hq hrv
    have ht2 := ht.trans hI l2
    refine ⟨F1, bs, bo, hbel, oneX_ok l1 l3, hro, ?_, fun b hb => ?_, hI.fo⟩
    · have := ht2.1
      rw [List.nodup_append] at this ⊢
      exact ⟨this.2.1, this.1, fun a ha b hb e => this.2.2 b hb a ha e.symm⟩
    · have hb' : b ∈ bo ++ bs := by
        rcases List.mem_append.1 hb with hb | hb
        · exact List.mem_append.2 (.inr hb)
        · exact List.mem_append.2 (.inl hb)
      obtain ⟨g, ra, hA, hcp, rfl, _⟩ := ht2.2.1 b hb'
      exact own g ra hA hcp
  have key : Came w F vs bi (oneX q.1) q.2 (if h : vals.toArray.size = 1 then vals.toArray[0] else .tuple vals.toArray) w' := by
    unfold leaveO at hys
    split at hys
    · split at hys
      · rename_i o ho
        obtain ⟨bo, k1, k2⟩ := outs_ok hI (fun g ra h => h) (fun _ _ h => h) ho hE
        obtain ⟨ys, hys2, rfl⟩ := Option.map_eq_some_iff.1 hys
        split at hys2
        · exact frozen o.2 ys o.1 bo k2.2.2 hys2 k1 k2.1 (fun b hb => by
            obtain ⟨g, ra, h1, h2, h3, _, h5⟩ := k2.2.1 b hb
            exact ⟨g, ra, h1, h2, h3, h5⟩)
        · obtain ⟨p, hp, rfl⟩ := Option.map_eq_some_iff.1 hys2
          exact given o.2 p o.1 bo k2.2.2 hp k1 k2
      · cases hys
    · obtain ⟨ys, hys2, rfl⟩ := Option.map_eq_some_iff.1 hys
      unfold leave at hys2
      split at hys2
      · exact frozen S.r ys [] [] (fun _ _ h => h) hys2 (by simp [RoB]) .nil (by simp)
      · obtain ⟨p, hp, rfl⟩ := Option.map_eq_some_iff.1 hys2
        exact given S.r p [] [] (fun _ _ h => h) hp (by simp [RoB]) (Taken.refl _)
  have hR : a.defers = [] ∧ ∃ v, (results fn a.tmps).run P w' = .ok v w' ∧ ∃ q', G q' ∧ ∃ v', (Ending.returned v = .returned v') ∧ Came w F vs bi (oneX q'.1) q'.2 v' w' :=
    ⟨hd, _, hrun, q, hG, _, rfl, key⟩
  rcases he with rfl | rfl
  · exact hR
  · exact hR
theorem outX_some {fr : Bool} {rs : List ResultVar} {q : Option (Ex × St)} {ys : List X} (h : outX T fr rs q = some ys) : ∃ e S xs, q = some (e, S) ∧ (e = .go ∨ e = .ret) ∧ resX T S rs = some xs ∧ leave fr S xs = some ys := by
  unfold outX at h
  split at h
  · rename_i S
    split at h
    · rename_i xs hx
      exact ⟨_, S, xs, rfl, .inl rfl, hx, h⟩
    · cases h
  · rename_i S
    split at h
    · rename_i xs hx
      exact ⟨_, S, xs, rfl, .inr rfl, hx, h⟩
    · cases h
  · cases h
theorem evSp_ok {call : FuncId → List X → Option (X × List X)} {an : FuncId → An} {nrm : Nat → St → Option St} (hm : P.follows .mixedOrders = true) (hT : TOk P T) (hS : ShOk T) (ih : CallOk P call) (hn : ∀ k, NrmOk (nrm k)) {n N : Nat} {fr : Bool} {f : FuncId} {fn : Func} (hfn : P.funcs[f]? = some fn) {c : Code} (hc : fn.body = some c) {vs : List Value} {w : World} {F : Nat → Prop} {S0 : St} {ys : List X} {args : List X} {bi : List Nat} {AE : Nat → Option RA} (hE : All2 (fun x v => R1 w F AE x v) (enterX 0 args).1 vs)
    (hk : chkC T an N c = true) (h : evSp T call an nrm n fr fn.results.toList S0 c = some ys) (hI0 : InvA w F ⟨fun b => b ∈ bi, fun g ra => AE g = some ra⟩ N S0 { tmps := vs.toArray ++ Array.replicate (fn.ntmps - vs.toArray.size) undef, defers := [] } w) :
    Calls P f vs.toArray w fun e w' => ∃ v, e = .returned v ∧ Came w F vs bi (oneX ys) [] v w' := by
  unfold evSp at h
  split at h
  · rename_i r0 id ops d C B
    simp only [chkC, Bool.and_eq_true] at hk
    obtain ⟨hk0, ⟨⟨hk1, _⟩, hkC⟩, hkB⟩ := hk
    split at h
    · rename_i o0 o1 hops
      split at h
      · rename_i d' t u yt hg0 hg1 hd1 hop1
        split at h
        · rename_i hdd
          subst hdd
          split at h
          · rename_i S1 e hS1 hte
            split at h
            · rename_i S2 hS2
              split at h
              · rename_i fl xs hu
                obtain ⟨ti, ht1, ht2⟩ := td_ok hT hte
                obtain ⟨_, dd, _, hund, _, _, hdesc, _⟩ := desc_ok hT ht1
                rw [ht2] at hdesc
                simp only [descOk] at hdesc
                subst hdesc
                have hok : ∀ o ∈ [o0, o1], okDst N o = true := hops ▸ List.all_eq_true.1 hk1
                have run : ∀ b : Bool, ∀ zs, spRest T call an nrm n fr fn.results.toList d' C B S2 b = some zs →
                    ∀ a w', InvA w F ⟨fun b => b ∈ bi, fun g ra => AE g = some ra⟩ N (put S2 (some d') (.b b)) a w' → (Code.cond (.tmp d') C .skip).wp P (Exit.then (B.wp P (fun e' a w' => ∃ e S xs ys, (e = .go ∨ e = .ret) ∧ resX T S fn.results.toList = some xs ∧ leave fr S xs = some ys ∧ ys = zs ∧ Post w F ⟨fun b => b ∈ bi, fun g ra => AE g = some ra⟩ N e S e' a w')) (fun e' a w' => ∃ e S xs ys, (e = .go ∨ e = .ret) ∧ resX T S fn.results.toList = some xs ∧ leave fr S xs = some ys ∧ ys = zs ∧ Post w F ⟨fun b => b ∈ bi, fun g ra => AE g = some ra⟩ N e S e' a w')) a w' := by
                  intro b zs hz a w' hI
                  unfold spRest at hz
                  split at hz
                  · rename_i S3 hS3
                    obtain ⟨e, S, xs, hB, he, hres, hlv⟩ := outX_some hz
                    refine wp_mono (evC_ok hm hT hS ih hn (.cond (.tmp d') C .skip) (by simpa [chkC] using hkC) hS3 a w' hI) ?_
                    rintro e' a' w1 ⟨rfl, hI'⟩
                    exact wp_mono (evC_ok hm hT hS ih hn B hkB hB a' w1 hI') fun e' a w' hp => ⟨e, S, xs, zs, he, hres, hlv, rfl, hp⟩
                  · rename_i hne
                    obtain ⟨e, S, xs, hB, he, hres, hlv⟩ := outX_some hz
                    refine wp_mono (evC_ok hm hT hS ih hn (.cond (.tmp d') C .skip) (by simpa [chkC] using hkC) hB a w' hI) ?_
                    rintro e' a' w1 ⟨rfl, hI'⟩
                    rcases he with rfl | rfl
                    · exact absurd hB (hne _)
                    · exact ⟨.ret, S, xs, zs, .inr rfl, hres, hlv, rfl, rfl, hI'⟩
                let G : List X → Prop := fun zs => zs = ys ∨ (zs = [.sl true []] ∧ ∃ d, ys = [.ow d []]) ∨ (zs = [.sl true []] ∧ ys = [.sl false []])
                have main : ∀ (zs : List X) (b : Bool), G zs → spRest T call an nrm n fr fn.results.toList d' C B S2 b = some zs →
                    ∀ a w', InvA w F ⟨fun b => b ∈ bi, fun g ra => AE g = some ra⟩ N (put S2 (some d') (.b b)) a w' → (Code.cond (.tmp d') C .skip).wp P (Exit.then (B.wp P (fun e' a w' => ∃ e S xs ys, (e = .go ∨ e = .ret) ∧ resX T S fn.results.toList = some xs ∧ leave fr S xs = some ys ∧ G ys ∧ Post w F ⟨fun b => b ∈ bi, fun g ra => AE g = some ra⟩ N e S e' a w')) (fun e' a w' => ∃ e S xs ys, (e = .go ∨ e = .ret) ∧ resX T S fn.results.toList = some xs ∧ leave fr S xs = some ys ∧ G ys ∧ Post w F ⟨fun b => b ∈ bi, fun g ra => AE g = some ra⟩ N e S e' a w')) a w' := by
                  intro zs b hG hz a w' hI
                  refine wp_mono (run b zs hz a w' hI) ?_
                  intro e' a' w1 hq
                  cases e' with
                  | normal => exact wp_mono hq fun e' a w' ⟨e, S, xs, ys, h1, h2, h3, h4, h5⟩ => ⟨e, S, xs, ys, h1, h2, h3, h4 ▸ hG, h5⟩
                  | _ => obtain ⟨e, S, xs, ys, h1, h2, h3, h4, h5⟩ := hq; exact ⟨e, S, xs, ys, h1, h2, h3, h4 ▸ hG, h5⟩
                have body : (Code.seq r0 (.seq (.seq (.region id ops false) (.cond (.tmp d') C .skip)) B)).wp P (fun e' a w' => ∃ e S xs ys, (e = .go ∨ e = .ret) ∧ resX T S fn.results.toList = some xs ∧ leave fr S xs = some ys ∧ G ys ∧ Post w F ⟨fun b => b ∈ bi, fun g ra => AE g = some ra⟩ N e S e' a w') { tmps := vs.toArray ++ Array.replicate (fn.ntmps - vs.toArray.size) undef, defers := [] } w := by
                  refine wp_seq (wp_mono (evC_ok hm hT hS ih hn r0 hk0 hS1 _ w hI0) ?_)
                  rintro e' a1 w1 ⟨rfl, hI1⟩
                  refine wp_seq (wp_seq (wp_region ?_))
                  have hsz : ops.size = 2 := by rw [← Array.length_toList, hops]; rfl
                  have e0 : ops[0]? = some o0 := by rw [← Array.getElem?_toList, hops]; rfl
                  have e1 : ops[1]? = some o1 := by rw [← Array.getElem?_toList, hops]; rfl
                  rw [hsz]
                  have hr2 : List.range 2 = [0, 1] := rfl
                  rw [hr2]
                  simp only [wpOps, e0, e1]
                  rw [if_pos (by simp [Region.wanted, hg0])]
                  refine .inl (upon_mono (opStep_ok hT hS ih (okDst_lt (hok o0 (by simp))) hS2 hI1 _) ?_)
                  intro a2 w2 hI2
                  rw [if_pos (by simp [Region.wanted, hg1])]
                  refine .inl ?_
                  obtain ⟨hd2, hs2, F2, A2, hJ⟩ := hI2
                  have hv := hJ.tv u
                  rw [hu] at hv
                  obtain ⟨ad, cp, hva, hle, hfull, hmem⟩ := sl_of hv
                  have hex : (execOp a2.eval o1).run P w2 = .ok (.value (.bool ad.isNone)) w2 := by
                    have hva' : a2.eval (.tmp u) = .slice ad xs.length cp := hva
                    have hn' : a2.eval (.const (.slice none 0 0)) = .slice none 0 0 := rfl
                    simp [execOp, hop1, hva', hn', eqGuard, Lib.run_eql_slice_nil w2 _ _ ad xs.length cp 0 0 hund]
                  unfold Oper.wp
                  rw [hex]
                  have hI3 := put_ok (x := .b ad.isNone) hJ (bool_ok _) hd2 hs2 (okDst_lt (hok o1 (by simp)))
                  rw [hd1] at hI3
                  split at h
                  · rename_i hemp
                    split at h
                    · rename_i x y hx hy
                      unfold joinX at h
                      split at h
                      · rename_i d0
                        cases h
                        cases hb : ad.isNone with
                        | true => rw [hb] at hI3; simp only [Oper.upon, hd1, hb]; exact main _ true (.inr (.inl ⟨rfl, d0, rfl⟩)) hx _ _ hI3
                        | false => rw [hb] at hI3; simp only [Oper.upon, hd1, hb]; exact main _ false (.inl rfl) hy _ _ hI3
                      · cases h
                        cases hb : ad.isNone with
                        | true => rw [hb] at hI3; simp only [Oper.upon, hd1, hb]; exact main _ true (.inr (.inr ⟨rfl, rfl⟩)) hx _ _ hI3
                        | false => rw [hb] at hI3; simp only [Oper.upon, hd1, hb]; exact main _ false (.inl rfl) hy _ _ hI3
                      · cases h
                    · cases h
                  · rename_i hemp
                    rcases hmem with hmem | ⟨a0, d, cs', hmem, _⟩
                    · subst hmem; simp at hemp
                    · have hb : ad.isNone = false := by simp [hmem]
                      rw [hb] at hI3
                      simp only [Oper.upon, hd1, hb]; exact main _ false (.inl rfl) h _ _ hI3
                refine (calls_fin (an1 := { fr := fr }) (args := args) (G := fun q => G q.1 ∧ q.2 = []) hT hfn hc hE (wp_mono body fun e' a w' ⟨e, S, xs, ys, h1, h2, h3, h4, h5⟩ => ⟨e, S, xs, (ys, []), h1, h2, by simp [leaveO, hasIo, h3], ⟨h4, rfl⟩, h5⟩)).mono ?_
                rintro e w' ⟨⟨zs, os⟩, ⟨hG, rfl⟩, v, rfl, F', bs, bo, hb, hr, hrest⟩
                refine ⟨v, rfl, F', bs, bo, hb, ?_, hrest⟩
                simp only at hG hr
                rcases hG with rfl | ⟨rfl, d, rfl⟩ | ⟨rfl, rfl⟩
                rotate_right
                · simp only [oneX, RoV, Ro, Rf] at hr ⊢
                  obtain ⟨cs, ⟨rfl, a, c, h1, h2, h3, h4⟩, rfl⟩ := hr
                  exact ⟨_, ⟨rfl, a, c, h1, h2, (fun e => by cases e), h4⟩, by simp [val, X.agg]⟩
                · exact hr
                · simp only [oneX, RoV, Ro, Rf] at hr ⊢
                  obtain ⟨cs, ⟨rfl, a, c, rfl, h1, h2, _⟩, rfl⟩ := hr
                  simp at h2
                  subst h2
                  exact ⟨_, ⟨a, 0, rfl, by simp, .inl ⟨rfl, rfl⟩⟩, by simp [val, X.agg]⟩
              · cases h
            · cases h
          · cases h
        · cases h
      · cases h
    · cases h
  · cases h
theorem evF_ok {dom : List Nat} {an : FuncId → An} (hm : P.follows .mixedOrders = true) (hT : TOk P T) (hS : ShOk T) (hdom : ∀ f ∈ dom, fnChk P T an f = true) {nrm : FuncId → Nat → St → Option St} (hn : ∀ f k, NrmOk (nrm f k)) : ∀ k, CallOk P (evF T an nrm (fnsOf P dom) k)
  | 0 => by
    intro f ts res outs h
    simp [evF] at h
  | k + 1 => by
    intro f ts res outs h w F vs bi hvs hnd hbi hF
    have ih := evF_ok (an := an) hm hT hS hdom hn k
    simp only [evF] at h
    split at h
    · rename_i fn hfn
      unfold fnsOf at hfn
      split at hfn
      · rename_i hin
        have hchk := hdom f (by simpa using hin)
        unfold fnChk at hchk
        rw [hfn] at hchk
        simp only [Bool.and_eq_true] at hchk
        split at h
        · rename_i c hc
          rw [hc] at hchk
          simp only [Option.any_some] at hchk
          refine ⟨by rw [hfn]; simp [hc]; simpa using hchk.2, ?_⟩
          split at h
          · rename_i S0 hS0
            obtain ⟨AE, hI0, hE⟩ := enter_ok hvs hnd hbi hF hS0 fn.ntmps
            have hN : fn.ntmps ≤ (vs.toArray ++ Array.replicate (fn.ntmps - vs.toArray.size) undef).size := by simp; omega
            split at h
            · obtain ⟨ys, hys, he2⟩ := Option.map_eq_some_iff.1 h
              simp only [Prod.mk.injEq] at he2
              obtain ⟨rfl, rfl⟩ := he2
              exact evSp_ok hm hT hS ih (hn f) hfn hc hE (chkC_mono hN hchk.1) hys hI0
            have fin : ∀ (e : Ex) (S : St) (xs : List X), (e = .go ∨ e = .ret) → evC T (evF T an nrm (fnsOf P dom) k) an (nrm f) k c S0 = some (e, S) → resX T S fn.results.toList = some xs → (leaveO (an f) ts S xs).map (fun q => (oneX q.1, q.2)) = some (res, outs) →
                Calls P f vs.toArray w fun e w' => ∃ v, e = .returned v ∧ Came w F vs bi res outs v w' := by
              intro e S xs he hev hres hlv
              obtain ⟨q, hq, he2⟩ := Option.map_eq_some_iff.1 hlv
              simp only [Prod.mk.injEq] at he2
              obtain ⟨rfl, rfl⟩ := he2
              refine (calls_fin (G := fun z => z = q) hT hfn hc hE (wp_mono (evC_ok hm hT hS ih (hn f) c (chkC_mono hN hchk.1) hev _ w hI0) fun e' a w' hp => ⟨e, S, xs, q, he, hres, hq, rfl, hp⟩)).mono ?_
              rintro e w' ⟨q', rfl, hh⟩
              exact hh
            split at h
            · rename_i S1 hS1
              split at h
              · rename_i xs hxs
                exact fin .go S1 xs (.inl rfl) hS1 hxs h
              · cases h
            · rename_i S1 hS1
              split at h
              · rename_i xs hxs
                exact fin .ret S1 xs (.inr rfl) hS1 hxs h
              · cases h
            · cases h
          · cases h
        · cases h
      · cases hfn
    · cases h
end
end Go.EV
