/- Every function of the table, at every depth; loops' heads. -/
import Derived.Test.YtehjeifbgegabaaEv17
import Derived.Lib.SliceRun
set_option linter.unusedVariables false
set_option linter.unusedSimpArgs false
namespace Go.EV
open Go.RowKit
def fnChk (P : Program) (T : TT) (an : FuncId → An) (f : FuncId) : Bool :=
  match P.funcs[f]? with
  | some fn => fn.body.any (chkC T an fn.ntmps) && fn.name != "runtime.NumGoroutine"
  | none => false
/-- The program's functions, those of the list alone. -/
def fnsOf (P : Program) (dom : List Nat) : FuncId → Option Func := fun f => if dom.contains f then P.funcs[f]? else none
theorem okDst_mono {N M : Nat} (h : N ≤ M) {o : Oper} (ho : okDst N o = true) : okDst M o = true := by
  unfold okDst at ho ⊢
  split
  · rename_i d hd
    rw [hd] at ho
    simp only [decide_eq_true_eq] at ho ⊢
    exact Nat.lt_of_lt_of_le ho h
  · rfl
theorem chkC_mono {T : TT} {an : FuncId → An} {N M : Nat} (h : N ≤ M) : ∀ {c : Code}, chkC T an N c = true → chkC T an M c = true
  | .region _ ops d, hc => by
    simp only [chkC, Bool.and_eq_true] at hc ⊢
    exact ⟨List.all_eq_true.2 fun o ho => okDst_mono h (List.all_eq_true.1 hc.1 o ho), hc.2⟩
  | .seq a b, hc => by simp only [chkC, Bool.and_eq_true] at hc ⊢; exact ⟨chkC_mono h hc.1, chkC_mono h hc.2⟩
  | .cond _ a b, hc => by simp only [chkC, Bool.and_eq_true] at hc ⊢; exact ⟨chkC_mono h hc.1, chkC_mono h hc.2⟩
  | .block _ b, hc => by simp only [chkC] at hc ⊢; exact chkC_mono h hc
  | .loop b, hc => by simp only [chkC] at hc ⊢; exact chkC_mono h hc
  | .skip, _ | .exit _, _ | .label _, _ | .ret, _ | .rangeFunc _ _ _ _, _ | .scope _, _ | .goto _, _ | .refuse _, _ => rfl
section
variable {P : Program} {T : TT} {w0 : World} {F0 Pb F : Nat → Prop} {A : Nat → Option RA} {S : St} {tm : Nat → Value} {w : World}
mutual
theorem rf_fz : ∀ {x : X} {cs : List Value}, Rf w F x cs → x.fz = true
  | .ag xs, cs, h => by simp only [Rf] at h; simp only [X.fz]; exact rfL_fz h
  | .b v, cs, h | .i k n, cs, h | .s l, cs, h | .ar d xs, cs, h | .sl f xs, cs, h | .np, cs, h | .pf x, cs, h | .nm, cs, h | .nf, cs, h => rfl
  | .bot, cs, h | .tup _, cs, h | .hw _, cs, h | .hd _ _ _ _, cs, h | .pt _ _ _, cs, h | .fn _ _, cs, h | .ow _ _, cs, h | .ob _, cs, h => by simp [Rf] at h
theorem rfL_fz : ∀ {xs : List X} {cs : List Value}, RfL w F xs cs → fzL xs = true
  | [], cs, h => rfl
  | x :: xs, cs, h => by
    simp only [RfL] at h
    obtain ⟨c1, c2, rfl, h1, h2⟩ := h
    simp [fzL, rf_fz h1, rfL_fz h2]
end
mutual
theorem imp_fz (nm : Nat → Nat) : ∀ (j : Nat) (x : X), x.fz = true → imp nm j x = (x, [], j)
  | j, .ag xs, h => by simp only [imp, impL_fz nm j xs (by simpa [X.fz] using h)]
  | j, .b v, h | j, .i k n, h | j, .s l, h | j, .ar d xs, h | j, .sl f xs, h | j, .np, h | j, .pf x, h | j, .nm, h | j, .nf, h => rfl
  | j, .bot, h | j, .tup _, h | j, .hw _, h | j, .hd _ _ _ _, h | j, .pt _ _ _, h | j, .fn _ _, h | j, .ow _ _, h | j, .ob _, h => by simp [X.fz] at h
theorem impL_fz (nm : Nat → Nat) : ∀ (j : Nat) (xs : List X), fzL xs = true → impL nm j xs = (xs, [], j)
  | j, [], h => rfl
  | j, x :: xs, h => by
    simp only [fzL, Bool.and_eq_true] at h
    simp only [impL, imp_fz nm j x h.1, impL_fz nm j xs h.2, List.nil_append]
end
theorem enterX_fz : ∀ {ts : List X} {vs : List Value} (j : Nat), All2 (fun y v => ∃ cs, Rf w F y cs ∧ v = val y cs) ts vs → enterX j ts = (ts, [])
  | _, _, j, .nil => rfl
  | y :: ys, _, j, .cons hy hys => by
    obtain ⟨cs, h1, _⟩ := hy
    simp only [enterX, imp_fz _ _ _ (rf_fz h1), enterX_fz (j + 1) hys, List.nil_append]
theorem all2_get : ∀ {ts : List X} {vs : List Value}, All2 (fun y v => ∃ cs, Rf w F y cs ∧ v = val y cs) ts vs → ∀ (u : Nat) (k : List Value), Rv w F A (ts.getD u .bot) ((vs ++ k).getD u undef)
  | _, _, .nil, u, k => by simp [Rv]
  | y :: ys, v :: vs, .cons hy hys, 0, k => by
    obtain ⟨cs, h1, h2⟩ := hy
    exact R1.rv ⟨cs, rf_rc h1, h2⟩
  | y :: ys, v :: vs, .cons hy hys, u + 1, k => by simpa using all2_get hys u k
theorem enter_ok {ts : List X} {vs : List Value} (h : All2 (fun y v => ∃ cs, Rf w F y cs ∧ v = val y cs) ts vs) (hF : ∀ b, F b → b < w.heap.size) {S0 : St} (hS : enter ts = some S0) (n : Nat) :
    InvA w F (fun _ => False) (vs.toArray ++ Array.replicate (n - vs.toArray.size) undef).size S0 { tmps := vs.toArray ++ Array.replicate (n - vs.toArray.size) undef, defers := [] } w := by
  unfold enter at hS
  rw [enterX_fz 0 h] at hS
  simp only [addR, Option.some.injEq] at hS
  subst hS
  refine ⟨rfl, rfl, F, fun _ => none, rfl, rfl, rfl, Nat.le_refl _, fun _ _ _ => rfl, fun b hb => ⟨hF b hb, fun _ => .inl hb⟩, fun v => ?_, fun g x hx => (by cases hx), fun g ra hg => (by cases hg), fun g k ra rb h1 => (by cases h1), fun g ra hg => (by cases hg)⟩
  have := all2_get (A := fun _ => none) h v (List.replicate (n - vs.toArray.size) undef)
  simp only [tmOf]
  have e : (vs.toArray ++ Array.replicate (n - vs.toArray.size) undef).getD v undef = (vs ++ List.replicate (n - vs.toArray.size) undef).getD v undef := by
    simp [Array.getD_eq_getD_getElem?, ← Array.getElem?_toList, List.getD_eq_getElem?_getD]
  rw [e]
  exact this
theorem res_ok (hT : TOk P T) {a : Act} (h : Inv w0 F0 Pb F A S (tmOf a) w) : ∀ {rs : List ResultVar} {xs : List X}, resX T S rs = some xs → ∃ vs, (rs.mapM fun | .tmp t => pure (a.tmps.getD t undef) | .cell b t => do loadVar t (← asAddr (a.tmps.getD b undef)) : Sem (List Value)).run P w = .ok vs w ∧ All2 (fun x v => Rv w F A x v) xs vs
  | [], xs, hr => by
    simp only [resX, Option.some.injEq] at hr
    subst hr
    exact ⟨[], by simp, .nil⟩
  | .tmp t :: rs, xs, hr => by
    simp only [resX] at hr
    obtain ⟨ys, hys, rfl⟩ := Option.map_eq_some_iff.1 hr
    obtain ⟨vs, h1, h2⟩ := res_ok hT h hys
    exact ⟨a.tmps.getD t undef :: vs, by simp only [List.mapM_cons, Sem.run_bind, Sem.run_pure, Result.andThen_ok]; rw [h1]; rfl, .cons (h.tv t) h2⟩
  | .cell b t :: rs, xs, hr => by
    simp only [resX] at hr
    split at hr
    · rename_i x ys hx hys
      cases hr
      obtain ⟨vs, h1, h2⟩ := res_ok hT h hys
      obtain ⟨v, h3, h4⟩ := ldV_ok (P := P) hT hx (h.tv b) (fun g c hg => h.places.mem hg)
      have h5 : (do loadVar t (← asAddr (a.tmps.getD b undef)) : Sem Value).run P w = .ok v w := by
        unfold Instr.loadAt at h3
        simp only [tmOf] at h3
        cases hv : a.tmps.getD b undef with
        | pointer p =>
          rw [hv] at h3
          cases p with
          | none => simp [Instr.sureAddr] at h3
          | some q => simpa [Instr.sureAddr, asAddr] using h3
        | _ => rw [hv] at h3; simp [Instr.sureAddr] at h3
      refine ⟨v :: vs, ?_, .cons h4 h2⟩
      simp only [List.mapM_cons, Sem.run_bind] at h5 ⊢
      rw [h5]
      simp only [Result.andThen_ok]
      rw [h1]
      rfl
    · cases hr
theorem results_ok (hT : TOk P T) {a : Act} (h : Inv w0 F0 Pb F A S (tmOf a) w) {fn : Func} {xs : List X} (hr : resX T S fn.results.toList = some xs) : ∃ vs : List Value, (results fn a.tmps).run P w = .ok (if h : vs.toArray.size = 1 then vs.toArray[0] else .tuple vs.toArray) w ∧ All2 (fun x v => Rv w F A x v) xs vs := by
  obtain ⟨vs, h1, h2⟩ := res_ok hT h hr
  refine ⟨vs, ?_, h2⟩
  unfold results
  rw [Array.mapM_eq_mapM_toList]
  simp only [Sem.run_bind, Sem.run_map]
  have h3 : (fn.results.toList.mapM fun | .tmp t => pure (a.tmps.getD t undef) | .cell a_1 t => do loadVar t (← asAddr (a.tmps.getD a_1 undef)) : Sem (List Value)).run P w = .ok vs w := h1
  exact (congrArg (fun r => (Result.andThen r fun a w' => Result.ok a.toArray w').andThen fun a w' => Sem.run P (pure (if h : a.size = 1 then a[0] else Value.tuple a)) w') h3).trans rfl
theorem calls_fin (hT : TOk P T) {f : FuncId} {fn : Func} (hfn : P.funcs[f]? = some fn) {c : Code} (hc : fn.body = some c) {vs : Array Value} {w : World} {F : Nat → Prop} {N : Nat} {fr : Bool} {G : List X → Prop}
    (hwp : c.wp P (fun e' a w' => ∃ e S xs ys, (e = .go ∨ e = .ret) ∧ resX T S fn.results.toList = some xs ∧ leave fr S xs = some ys ∧ G ys ∧ Post w F (fun _ => False) N e S e' a w') { tmps := vs ++ Array.replicate (fn.ntmps - vs.size) undef, defers := [] } w) :
    Calls P f vs w fun e w' => ∃ ys, G ys ∧ ∃ v F' bs, e = .returned v ∧ Below w.heap.size w w' ∧ RoV w' F' (oneX ys) v bs ∧ bs.Nodup ∧ (∀ b ∈ bs, ¬ F' b ∧ w.heap.size ≤ b ∧ b < w'.heap.size) ∧ (∀ b, F' b → b < w'.heap.size ∧ (b < w.heap.size → F b)) := by
  refine calls_of_wp hfn hc (wp_mono hwp ?_)
  rintro e' a w' ⟨e, S, xs, ys, he, hres, hys, hG, rfl, hd, hsz, F1, A1, hI⟩
  obtain ⟨vals, hrun, hrv⟩ := results_ok hT hI hres
  have hbel : Below w.heap.size w w' := ⟨hI.os, hI.tape, hI.output, hI.size, fun b hb => hI.keep b hb (fun h => h)⟩
  have key : ∃ F' bs, RoV w' F' (oneX ys) (if h : vals.toArray.size = 1 then vals.toArray[0] else .tuple vals.toArray) bs ∧ bs.Nodup ∧ (∀ b ∈ bs, ¬ F' b ∧ w.heap.size ≤ b ∧ b < w'.heap.size) ∧ (∀ b, F' b → b < w'.heap.size ∧ (b < w.heap.size → F b)) := by
    unfold leave at hys
    split at hys
    · let F2 : Nat → Prop := fun b => F1 b ∨ ∃ g ra, A1 g = some ra ∧ 0 < ra.cap ∧ b = ra.b
      have hv2 := frzL_vals (F' := F2) hI.places (fun b hb => .inl hb) hys (fun g _ ra hA hcp => .inr ⟨g, ra, hA, hcp, rfl⟩) hrv
      obtain ⟨l1, l2⟩ := leaveF_ok hv2
      refine ⟨F2, [], oneX_ok l1 l2, .nil, by simp, ?_⟩
      rintro b (hb | ⟨g, ra, hA, hcp, rfl⟩)
      · exact ⟨(hI.fo b hb).1, fun hlt => ((hI.fo b hb).2 hlt).resolve_right (fun h => h)⟩
      · obtain ⟨n1, n2, n3⟩ := hI.nw g ra hA hcp
        exact ⟨n1, fun hlt => (n2 hlt).elim⟩
    · obtain ⟨q, hq, rfl⟩ := Option.map_eq_some_iff.1 hys
      obtain ⟨bs, l1, l2, l3⟩ := leaveR_ok hI (fun _ _ h => h) hq hrv
      refine ⟨F1, bs, oneX_ok l1 l3, l2.1, fun b hb => ?_, fun b hb => ⟨(hI.fo b hb).1, fun hlt => ((hI.fo b hb).2 hlt).resolve_right (fun h => h)⟩⟩
      obtain ⟨g, ra, hA, hcp, rfl, _⟩ := l2.2.1 b hb
      obtain ⟨n1, n2, n3⟩ := hI.nw g ra hA hcp
      refine ⟨n3, ?_, n1⟩
      rcases Nat.lt_or_ge ra.b w.heap.size with hlt | hge
      · exact (n2 hlt).elim
      · exact hge
  obtain ⟨F', bs, k1, k2, k3, k4⟩ := key
  have hR : a.defers = [] ∧ ∃ v, (results fn a.tmps).run P w' = .ok v w' ∧ ∃ ys', G ys' ∧ ∃ v' F' bs, (Ending.returned v = .returned v') ∧ Below w.heap.size w w' ∧ RoV w' F' (oneX ys') v' bs ∧ bs.Nodup ∧ (∀ b ∈ bs, ¬ F' b ∧ w.heap.size ≤ b ∧ b < w'.heap.size) ∧ (∀ b, F' b → b < w'.heap.size ∧ (b < w.heap.size → F b)) :=
    ⟨hd, _, hrun, ys, hG, _, F', bs, rfl, hbel, k1, k2, k3, k4⟩
  rcases he with rfl | rfl
  · exact hR
  · exact hR
theorem outX_some {fr : Bool} {rs : List ResultVar} {q : Option (Ex × St)} {ys : List X} (h : outX T fr rs q = some ys) : ∃ e S xs, q = some (e, S) ∧ (e = .go ∨ e = .ret) ∧ resX T S rs = some xs ∧ leave fr S xs = some ys := by
  unfold outX at h
  split at h
  · rename_i S
    split at h
    · rename_i xs hx
      exact ⟨_, S, xs, rfl, .inl rfl, hx, h⟩
    · cases h
  · rename_i S
    split at h
    · rename_i xs hx
      exact ⟨_, S, xs, rfl, .inr rfl, hx, h⟩
    · cases h
  · cases h
theorem evSp_ok {call : FuncId → List X → Option (X × List X)} {an : FuncId → An} {nrm : Nat → St → Option St} (hm : P.follows .mixedOrders = true) (hT : TOk P T) (hS : ShOk T) (ih : CallOk P call) (hn : ∀ k, NrmOk (nrm k)) {n N : Nat} {fr : Bool} {f : FuncId} {fn : Func} (hfn : P.funcs[f]? = some fn) {c : Code} (hc : fn.body = some c) {vs : Array Value} {w : World} {F : Nat → Prop} {S0 : St} {ys : List X}
    (hk : chkC T an N c = true) (h : evSp T call an nrm n fr fn.results.toList S0 c = some ys) (hI0 : InvA w F (fun _ => False) N S0 { tmps := vs ++ Array.replicate (fn.ntmps - vs.size) undef, defers := [] } w) :
    Calls P f vs w fun e w' => ∃ v F' bs, e = .returned v ∧ Below w.heap.size w w' ∧ RoV w' F' (oneX ys) v bs ∧ bs.Nodup ∧ (∀ b ∈ bs, ¬ F' b ∧ w.heap.size ≤ b ∧ b < w'.heap.size) ∧ (∀ b, F' b → b < w'.heap.size ∧ (b < w.heap.size → F b)) := by
  unfold evSp at h
  split at h
  · rename_i r0 id ops d C B
    simp only [chkC, Bool.and_eq_true] at hk
    obtain ⟨hk0, ⟨⟨hk1, _⟩, hkC⟩, hkB⟩ := hk
    split at h
    · rename_i o0 o1 hops
      split at h
      · rename_i d' t u yt hg0 hg1 hd1 hop1
        split at h
        · rename_i hdd
          subst hdd
          split at h
          · rename_i S1 e hS1 hte
            split at h
            · rename_i S2 hS2
              split at h
              · rename_i fl xs hu
                obtain ⟨ti, ht1, ht2⟩ := td_ok hT hte
                obtain ⟨_, dd, _, hund, _, _, hdesc, _⟩ := desc_ok hT ht1
                rw [ht2] at hdesc
                simp only [descOk] at hdesc
                subst hdesc
                have hok : ∀ o ∈ [o0, o1], okDst N o = true := hops ▸ List.all_eq_true.1 hk1
                have run : ∀ b : Bool, ∀ zs, spRest T call an nrm n fr fn.results.toList d' C B S2 b = some zs →
                    ∀ a w', InvA w F (fun _ => False) N (put S2 (some d') (.b b)) a w' → (Code.cond (.tmp d') C .skip).wp P (Exit.then (B.wp P (fun e' a w' => ∃ e S xs ys, (e = .go ∨ e = .ret) ∧ resX T S fn.results.toList = some xs ∧ leave fr S xs = some ys ∧ ys = zs ∧ Post w F (fun _ => False) N e S e' a w')) (fun e' a w' => ∃ e S xs ys, (e = .go ∨ e = .ret) ∧ resX T S fn.results.toList = some xs ∧ leave fr S xs = some ys ∧ ys = zs ∧ Post w F (fun _ => False) N e S e' a w')) a w' := by
                  intro b zs hz a w' hI
                  unfold spRest at hz
                  split at hz
                  · rename_i S3 hS3
                    obtain ⟨e, S, xs, hB, he, hres, hlv⟩ := outX_some hz
                    refine wp_mono (evC_ok hm hT hS ih hn (.cond (.tmp d') C .skip) (by simpa [chkC] using hkC) hS3 a w' hI) ?_
                    rintro e' a' w1 ⟨rfl, hI'⟩
                    exact wp_mono (evC_ok hm hT hS ih hn B hkB hB a' w1 hI') fun e' a w' hp => ⟨e, S, xs, zs, he, hres, hlv, rfl, hp⟩
                  · rename_i hne
                    obtain ⟨e, S, xs, hB, he, hres, hlv⟩ := outX_some hz
                    refine wp_mono (evC_ok hm hT hS ih hn (.cond (.tmp d') C .skip) (by simpa [chkC] using hkC) hB a w' hI) ?_
                    rintro e' a' w1 ⟨rfl, hI'⟩
                    rcases he with rfl | rfl
                    · exact absurd hB (hne _)
                    · exact ⟨.ret, S, xs, zs, .inr rfl, hres, hlv, rfl, rfl, hI'⟩
                let G : List X → Prop := fun zs => zs = ys ∨ (zs = [.sl true []] ∧ ∃ d, ys = [.ow d []])
                have main : ∀ (zs : List X) (b : Bool), G zs → spRest T call an nrm n fr fn.results.toList d' C B S2 b = some zs →
                    ∀ a w', InvA w F (fun _ => False) N (put S2 (some d') (.b b)) a w' → (Code.cond (.tmp d') C .skip).wp P (Exit.then (B.wp P (fun e' a w' => ∃ e S xs ys, (e = .go ∨ e = .ret) ∧ resX T S fn.results.toList = some xs ∧ leave fr S xs = some ys ∧ G ys ∧ Post w F (fun _ => False) N e S e' a w')) (fun e' a w' => ∃ e S xs ys, (e = .go ∨ e = .ret) ∧ resX T S fn.results.toList = some xs ∧ leave fr S xs = some ys ∧ G ys ∧ Post w F (fun _ => False) N e S e' a w')) a w' := by
                  intro zs b hG hz a w' hI
                  refine wp_mono (run b zs hz a w' hI) ?_
                  intro e' a' w1 hq
                  cases e' with
                  | normal => exact wp_mono hq fun e' a w' ⟨e, S, xs, ys, h1, h2, h3, h4, h5⟩ => ⟨e, S, xs, ys, h1, h2, h3, h4 ▸ hG, h5⟩
                  | _ => obtain ⟨e, S, xs, ys, h1, h2, h3, h4, h5⟩ := hq; exact ⟨e, S, xs, ys, h1, h2, h3, h4 ▸ hG, h5⟩
                have body : (Code.seq r0 (.seq (.seq (.region id ops false) (.cond (.tmp d') C .skip)) B)).wp P (fun e' a w' => ∃ e S xs ys, (e = .go ∨ e = .ret) ∧ resX T S fn.results.toList = some xs ∧ leave fr S xs = some ys ∧ G ys ∧ Post w F (fun _ => False) N e S e' a w') { tmps := vs ++ Array.replicate (fn.ntmps - vs.size) undef, defers := [] } w := by
                  refine wp_seq (wp_mono (evC_ok hm hT hS ih hn r0 hk0 hS1 _ w hI0) ?_)
                  rintro e' a1 w1 ⟨rfl, hI1⟩
                  refine wp_seq (wp_seq (wp_region ?_))
                  have hsz : ops.size = 2 := by rw [← Array.length_toList, hops]; rfl
                  have e0 : ops[0]? = some o0 := by rw [← Array.getElem?_toList, hops]; rfl
                  have e1 : ops[1]? = some o1 := by rw [← Array.getElem?_toList, hops]; rfl
                  rw [hsz]
                  have hr2 : List.range 2 = [0, 1] := rfl
                  rw [hr2]
                  simp only [wpOps, e0, e1]
                  rw [if_pos (by simp [Region.wanted, hg0])]
                  refine .inl (upon_mono (opStep_ok hT hS ih (okDst_lt (hok o0 (by simp))) hS2 hI1 _) ?_)
                  intro a2 w2 hI2
                  rw [if_pos (by simp [Region.wanted, hg1])]
                  refine .inl ?_
                  obtain ⟨hd2, hs2, F2, A2, hJ⟩ := hI2
                  have hv := hJ.tv u
                  rw [hu] at hv
                  obtain ⟨ad, cp, hva, hle, hfull, hmem⟩ := sl_of hv
                  have hex : (execOp a2.eval o1).run P w2 = .ok (.value (.bool ad.isNone)) w2 := by
                    have hva' : a2.eval (.tmp u) = .slice ad xs.length cp := hva
                    have hn' : a2.eval (.const (.slice none 0 0)) = .slice none 0 0 := rfl
                    simp [execOp, hop1, hva', hn', eqGuard, Lib.run_eql_slice_nil w2 _ _ ad xs.length cp 0 0 hund]
                  unfold Oper.wp
                  rw [hex]
                  have hI3 := put_ok (x := .b ad.isNone) hJ (bool_ok _) hd2 hs2 (okDst_lt (hok o1 (by simp)))
                  rw [hd1] at hI3
                  split at h
                  · rename_i hemp
                    split at h
                    · rename_i x y hx hy
                      unfold joinX at h
                      split at h
                      · rename_i d0
                        cases h
                        cases hb : ad.isNone with
                        | true => rw [hb] at hI3; simp only [Oper.upon, hd1, hb]; exact main _ true (.inr ⟨rfl, d0, rfl⟩) hx _ _ hI3
                        | false => rw [hb] at hI3; simp only [Oper.upon, hd1, hb]; exact main _ false (.inl rfl) hy _ _ hI3
                      · cases h
                    · cases h
                  · rename_i hemp
                    rcases hmem with hmem | ⟨a0, d, cs', hmem, _⟩
                    · subst hmem; simp at hemp
                    · have hb : ad.isNone = false := by simp [hmem]
                      rw [hb] at hI3
                      simp only [Oper.upon, hd1, hb]; exact main _ false (.inl rfl) h _ _ hI3
                refine (calls_fin hT hfn hc body).mono ?_
                rintro e w' ⟨zs, hG, v, F', bs, rfl, hb, hr, hrest⟩
                refine ⟨v, F', bs, rfl, hb, ?_, hrest⟩
                rcases hG with rfl | ⟨rfl, d, rfl⟩
                · exact hr
                · simp only [oneX, RoV, Ro, Rf] at hr ⊢
                  obtain ⟨cs, ⟨rfl, a, c, rfl, h1, h2, _⟩, rfl⟩ := hr
                  simp at h2
                  subst h2
                  exact ⟨_, ⟨a, 0, rfl, by simp, .inl ⟨rfl, rfl⟩⟩, by simp [val, X.agg]⟩
              · cases h
            · cases h
          · cases h
        · cases h
      · cases h
    · cases h
  · cases h
theorem evF_ok {dom : List Nat} {an : FuncId → An} (hm : P.follows .mixedOrders = true) (hT : TOk P T) (hS : ShOk T) (hdom : ∀ f ∈ dom, fnChk P T an f = true) {nrm : FuncId → Nat → St → Option St} (hn : ∀ f k, NrmOk (nrm f k)) : ∀ k, CallOk P (evF T an nrm (fnsOf P dom) k)
  | 0 => by
    intro f ts res outs h
    simp [evF] at h
  | k + 1 => by
    intro f ts res outs h w F vs hvs hF
    have ih := evF_ok (an := an) hm hT hS hdom hn k
    simp only [evF] at h
    split at h
    · rename_i fn hfn
      unfold fnsOf at hfn
      split at hfn
      · rename_i hin
        have hchk := hdom f (by simpa using hin)
        unfold fnChk at hchk
        rw [hfn] at hchk
        simp only [Bool.and_eq_true] at hchk
        split at h
        · rename_i c hc
          rw [hc] at hchk
          simp only [Option.any_some] at hchk
          refine ⟨by rw [hfn]; simp [hc]; simpa using hchk.2, ?_⟩
          split at h
          · rename_i S0 hS0
            have hI0 := enter_ok hvs hF hS0 fn.ntmps
            have hN : fn.ntmps ≤ (vs.toArray ++ Array.replicate (fn.ntmps - vs.toArray.size) undef).size := by simp; omega
            split at h
            · obtain ⟨ys, hys, he2⟩ := Option.map_eq_some_iff.1 h
              simp only [Prod.mk.injEq] at he2
              obtain ⟨rfl, _⟩ := he2
              exact evSp_ok hm hT hS ih (hn f) hfn hc (chkC_mono hN hchk.1) hys hI0
            have fin : ∀ (e : Ex) (S : St) (xs : List X), (e = .go ∨ e = .ret) → evC T (evF T an nrm (fnsOf P dom) k) an (nrm f) k c S0 = some (e, S) → resX T S fn.results.toList = some xs → (leave (an f).fr S xs).map (fun ys => (oneX ys, ([] : List X))) = some (res, outs) →
                Calls P f vs.toArray w fun e w' => ∃ v F' bs, e = .returned v ∧ Below w.heap.size w w' ∧ RoV w' F' res v bs ∧ bs.Nodup ∧ (∀ b ∈ bs, ¬ F' b ∧ w.heap.size ≤ b ∧ b < w'.heap.size) ∧ (∀ b, F' b → b < w'.heap.size ∧ (b < w.heap.size → F b)) := by
              intro e S xs he hev hres hlv
              obtain ⟨ys, hys, he2⟩ := Option.map_eq_some_iff.1 hlv
              simp only [Prod.mk.injEq] at he2
              obtain ⟨rfl, _⟩ := he2
              refine (calls_fin (G := fun z => z = ys) hT hfn hc (wp_mono (evC_ok hm hT hS ih (hn f) c (chkC_mono hN hchk.1) hev _ w hI0) fun e' a w' hp => ⟨e, S, xs, ys, he, hres, hys, rfl, hp⟩)).mono ?_
              rintro e w' ⟨ys', rfl, hh⟩
              exact hh
            split at h
            · rename_i S1 hS1
              split at h
              · rename_i xs hxs
                exact fin .go S1 xs (.inl rfl) hS1 hxs h
              · cases h
            · rename_i S1 hS1
              split at h
              · rename_i xs hxs
                exact fin .ret S1 xs (.inr rfl) hS1 hxs h
              · cases h
            · cases h
          · cases h
        · cases h
      · cases hfn
    · cases h
end
end Go.EV
