/- Regions whose order the machine draws: every order comes to the same. -/
import Derived.Test.YtfadalgikdffeaaGreatEv15
import Derived.Orders
set_option linter.unusedVariables false
set_option linter.unusedSimpArgs false
namespace Go.EV
open Go.RowKit
def RSub (r r' : Nat → Option X) : Prop := ∀ g c, r g = some c → r' g = some c
def RSubL (L : List Nat) (r r' : Nat → Option X) : Prop := ∀ g ∈ L, ∀ c, r g = some c → r' g = some c
theorem elems_sub {r r' : Nat → Option X} {x : X} (h : RSubL x.refs r r') {c : List X} (he : elems r x = some c) : elems r' x = some c := by
  unfold elems at he ⊢
  split at he
  · exact he
  · split at he
    · rename_i hg; simp only [h _ (by simp [X.refs]) _ hg]; exact he
    · cases he
  · split at he
    · rename_i hg; simp only [h _ (by simp [X.refs]) _ hg]; exact he
    · cases he
  · cases he
mutual
theorem frz_sub {r r' : Nat → Option X} : ∀ {x y : X}, RSubL x.refs r r' → frz r x = some y → frz r' x = some y
  | .ag xs, y, h, he => by
    simp only [frz] at he ⊢
    obtain ⟨ys, hys, rfl⟩ := Option.map_eq_some_iff.1 he
    rw [frzL_sub (by simpa only [X.refs] using h) hys]; rfl
  | .hw g, y, h, he => by
    simp only [frz] at he ⊢
    split at he
    · rename_i hg; simp only [h _ (by simp [X.refs]) _ hg]; exact he
    · cases he
  | .hd g lo len f, y, h, he => by
    simp only [frz] at he ⊢
    split at he
    · rename_i hg; simp only [h _ (by simp [X.refs]) _ hg]; exact he
    · cases he
  | .b v, y, h, he | .i k n, y, h, he | .s l, y, h, he | .ar d xs, y, h, he | .sl f xs, y, h, he | .np, y, h, he | .pf x, y, h, he | .nm, y, h, he | .nf, y, h, he => by simpa only [frz] using he
  | .pt g o p, y, h, he => by
    simp only [frz] at he ⊢
    obtain ⟨rfl, rfl, c, hg, hz, rfl⟩ := ptF_some he
    simp only [ptF, h _ (by simp [X.refs]) _ hg, hz]
  | .bot, y, h, he | .tup _, y, h, he | .fn _ _, y, h, he | .ow _ _, y, h, he | .ob _, y, h, he => by simp [frz] at he
theorem frzL_sub {r r' : Nat → Option X} : ∀ {xs ys : List X}, RSubL (refsL xs) r r' → frzL r xs = some ys → frzL r' xs = some ys
  | [], ys, h, he => by simpa only [frzL] using he
  | x :: xs, ys, h, he => by
    simp only [frzL] at he ⊢
    split at he
    · rename_i y ys' h1 h2
      simp only [frz_sub (fun g hg => h g (by simp [refsL, hg])) h1, frzL_sub (fun g hg => h g (by simp [refsL, hg])) h2]; exact he
    · cases he
end
theorem frw_sub {r r' : Nat → Option X} {x y : X} (h : RSubL x.refs r r') (he : frw r x = some y) : frw r' x = some y := by
  obtain ⟨z, hz, rfl⟩ := Option.map_eq_some_iff.1 he
  simp only [frw, frz_sub h hz, Option.map_some]
theorem frwL_sub {r r' : Nat → Option X} {xs ys : List X} (h : RSubL (refsL xs) r r') (he : frwL r xs = some ys) : frwL r' xs = some ys := by
  obtain ⟨zs, hz, rfl⟩ := Option.map_eq_some_iff.1 he
  simp only [frwL, frzL_sub h hz, Option.map_some]
theorem refsL_append : ∀ (l m : List X), refsL (l ++ m) = refsL l ++ refsL m
  | [], m => by simp [refsL]
  | x :: l, m => by simp [refsL, refsL_append l m]
theorem callX_sub {call : FuncId → List X → Option (X × List X)} {an : FuncId → An} {r r' : Nat → Option X} {dst : Nat} {f : FuncId} {ys : List X} (h : RSubL (refsL ys) r r') {q : X × List (Nat × X) × List Nat} (he : callX call an r dst f ys = some q) : callX call an r' dst f ys = some q := by
  unfold callX at he ⊢
  split at he
  · rename_i hm; rw [if_pos hm]
    split at he
    · rename_i ts hts; simp only [frzL_sub h hts]; exact he
    · cases he
  · cases he
theorem opq_sub {T : TT} {call : FuncId → List X → Option (X × List X)} {an : FuncId → An} {r r' : Nat → Option X} {dst : Nat} {o : Op} {xs : List X} (h : RSubL (refsL xs) r r') {q : X × List (Nat × X) × List Nat} (he : opq T call an r dst o xs = some q) : opq T call an r' dst o xs = some q := by
  have lenS : ∀ {x : X} {n : Nat}, RSubL x.refs r r' → lenX r x = some n → lenX r' x = some n := by
    intro x n h hx
    unfold lenX at hx ⊢
    split at hx
    · exact hx
    · obtain ⟨c, hc, rfl⟩ := Option.map_eq_some_iff.1 hx
      rw [elems_sub h hc]; rfl
  cases o <;> simp only [opq] at he ⊢ <;> (try exact he)
  case buildSlice t n ps =>
    unfold buildSlX at he ⊢
    split at he
    · split at he
      · split at he
        · rename_i hz; rw [if_pos hz]; exact he
        · rename_i hz
          rw [if_neg hz]
          split at he
          · rename_i xs' hx; simp only [frwL_sub h hx]; exact he
          · cases he
      · cases he
    · cases he
  case load t y =>
    unfold x1 at he ⊢
    split at he
    · rename_i x
      have h : RSubL x.refs r r' := by simpa [refsL] using h
      dsimp only at he ⊢
      have key : ∀ z, ldV T r t x = some z → ldV T r' t x = some z := by
        intro z hz
        unfold ldV at hz ⊢
        split at hz
        · split at hz
          · split at hz
            · rename_i hg; simp only [h _ (by simp [X.refs]) _ hg]; exact hz
            · cases hz
          · exact hz
          · cases hz
        · cases hz
      cases hl : ldV T r t x with
      | none => rw [hl] at he; cases he
      | some z => rw [hl] at he; simp only [key z hl]; exact he
    · cases he
  case convert src t y =>
    unfold x1 at he ⊢
    split at he
    · rename_i x
      have h : RSubL x.refs r r' := by simpa [refsL] using h
      unfold convX at he ⊢
      split at he
      · exact he
      · exact he
      · exact he
      · exact he
      · split at he
        · rename_i hu; rw [if_pos hu]
          split at he
          · rename_i c hc; simp only [elems_sub h hc]; exact he
          · cases he
        · cases he
      · cases he
    · cases he
  case slice t y lo hi mx =>
    unfold sliceX at he ⊢
    split at he
    · rename_i x xs
      have h : RSubL x.refs r r' := fun g hg => h g (by simp [refsL, hg])
      dsimp only at he ⊢
      split at he
      · exact he
      · split at he
        · rename_i ei hei
          have key : ∀ (es : Nat) (l1 l2 l3 : Option X) z, cut r es x l1 l2 l3 = some z → cut r' es x l1 l2 l3 = some z := by
            intro es l1 l2 l3 z hz
            unfold cut at hz ⊢
            split at hz
            · exact hz
            · split at hz
              · rename_i hg; simp only [h _ (by simp [X.refs]) _ hg]; exact hz
              · cases hz
            · split at hz
              · rename_i hg; simp only [h _ (by simp [X.refs]) _ hg]; exact hz
              · cases hz
            · cases hz
          revert he
          generalize (optX lo xs).1 = l1
          generalize (optX hi (optX lo xs).2).1 = l2
          generalize (optX mx (optX hi (optX lo xs).2).2).1 = l3
          intro he
          cases hc : cut r ei.size x l1 l2 l3 with
          | none => rw [hc] at he; cases he
          | some z => rw [hc] at he; rw [key _ _ _ _ _ hc]; exact he
        · cases he
      · cases he
    · cases he
  case indexAddr t y n =>
    unfold x2 at he ⊢
    split at he
    · rename_i x n'
      have h : RSubL x.refs r r' := fun g hg => h g (by simp [refsL, hg])
      unfold intX at he ⊢
      dsimp only at he ⊢
      split at he
      · rename_i k m
        have key : ∀ x : X, RSubL x.refs r r' → ∀ z, idxA T r t x m = some z → idxA T r' t x m = some z := by
          clear h he
          intro x h z hz
          unfold idxA at hz ⊢
          split at hz
          · split at hz
            · split at hz
              · exact hz
              · split at hz
                · rename_i hg; simp only [h _ (by simp [X.refs]) _ hg]; exact hz
                · cases hz
              · split at hz
                · rename_i hg; simp only [h _ (by simp [X.refs]) _ hg]; exact hz
                · cases hz
              · cases hz
            · cases hz
          · exact hz
          · cases hz
        cases hl : idxA T r t x m with
        | none => rw [hl] at he; cases he
        | some z => rw [hl] at he; simp only [key x (fun g hg => h g (by simp [refsL, hg])) z hl]; exact he
      · cases he
    · cases he
  case call c =>
    split at he
    · unfold x1 at he ⊢
      split at he
      · rename_i x
        have h : RSubL x.refs r r' := by simpa [refsL] using h
        dsimp only at he ⊢
        have key : ∀ t z, lenV T r t x = some z → lenV T r' t x = some z := by
          intro t z hz
          unfold lenV at hz ⊢
          split at hz
          · have k2 : ∀ z, (lenX r x).map (fun (n : Nat) => X.i .i64 n) = some z → (lenX r' x).map (fun (n : Nat) => X.i .i64 n) = some z := by
              intro z hz
              obtain ⟨n, hn, rfl⟩ := Option.map_eq_some_iff.1 hz
              rw [lenS h hn]; rfl
            cases x <;> first | (cases hz; done) | exact k2 _ hz
          · exact hz
          · cases hz
        cases hl : lenV T r (c.argTypes[0]?) x with
        | none => rw [hl] at he; cases he
        | some z => rw [hl] at he; simp only [key _ z hl]; exact he
      · cases he
    · exact he
    · exact he
    · exact callX_sub (fun g hg => h g (by cases xs with | nil => simp [refsL] at hg | cons y ys => simp only [List.tail_cons] at hg; simp [refsL, hg])) he
    · split at he
      · rename_i f cap args
        refine callX_sub (fun g hg => h g ?_) he
        rw [refsL_append] at hg
        simp only [refsL, X.refs]
        rcases List.mem_append.1 hg with hg | hg
        · simp [hg]
        · simp [hg]
      · cases he
    · cases he
theorem addR_sub {lim : Nat} : ∀ {l : List (Nat × X)} {r r' : Nat → Option X}, addR lim r l = some r' → RSub r r'
  | [], r, r', h => by simp only [addR, Option.some.injEq] at h; subst h; exact fun _ _ h => h
  | (g, x) :: l, r, r', h => by
    simp only [addR] at h
    split at h
    · rename_i hg
      intro k c hk
      refine addR_sub h k c ?_
      unfold upd
      by_cases e : k = g
      · subst e; rw [(freeN_none hg).1] at hk; cases hk
      · simpa [e] using hk
    · cases h
theorem upd_comm {α : Type} (f : Nat → α) {a b : Nat} (h : a ≠ b) (x y : α) : upd (upd f a x) b y = upd (upd f b y) a x := by
  funext k
  unfold upd
  by_cases e : k = a
  · subst e; simp [h]
  · simp [e]
theorem addR_one {lim : Nat} : ∀ {l : List (Nat × X)} {r r2 : Nat → Option X} {g : Nat} {x : X}, r g = none → addR lim (upd r g (some x)) l = some r2 → ∃ r1, addR lim r l = some r1 ∧ r1 g = none ∧ r2 = upd r1 g (some x)
  | [], r, r2, g, x, hg, h => by
    simp only [addR, Option.some.injEq] at h
    exact ⟨r, rfl, hg, h.symm⟩
  | (k, y) :: l, r, r2, g, x, hg, h => by
    simp only [addR] at h
    split at h
    · rename_i hk
      by_cases e : k = g
      · subst e; simp [upd, freeN] at hk
      · have hk' : freeN lim r k = true := by simpa [upd, e, freeN] using hk
        rw [upd_comm r (Ne.symm e) (some x) (some y)] at h
        obtain ⟨r1, h1, h2, h3⟩ := addR_one (r := upd r k (some y)) (by simp [upd, Ne.symm e, hg]) h
        exact ⟨r1, by simp only [addR, hk']; exact h1, h2, h3⟩
    · cases h
theorem addR_comm {lim : Nat} : ∀ {n1 n2 : List (Nat × X)} {r r1 r2 : Nat → Option X}, addR lim r n1 = some r1 → addR lim r1 n2 = some r2 → ∃ r1', addR lim r n2 = some r1' ∧ addR lim r1' n1 = some r2
  | [], n2, r, r1, r2, h1, h2 => by
    simp only [addR, Option.some.injEq] at h1
    subst h1
    exact ⟨r2, h2, rfl⟩
  | (g, x) :: n1, n2, r, r1, r2, h1, h2 => by
    simp only [addR] at h1
    split at h1
    · rename_i hg
      obtain ⟨q, q1, q2⟩ := addR_comm h1 h2
      obtain ⟨hg1, hg2⟩ := freeN_none hg
      obtain ⟨q', p1, p2, rfl⟩ := addR_one hg1 q1
      have p3 : freeN lim q' g = true := by simp [freeN, p2, hg2]
      exact ⟨q', p1, by simp only [addR, p3]; exact q2⟩
    · cases h1
def isStore : Op → Bool
  | .store _ _ _ => true
  | _ => false
def isLoose (an : FuncId → An) (o : Op) : Bool := isStore o || isApp o || (isCallF o && isEff an o)
def isAlloc (T : TT) (o : Oper) : Bool := match o.op with
  | .alloc e => match o.dst, T e with
    | some d, some ti => decide (d < 4096) && ti.zero.wkA.refs.isEmpty
    | _, _ => false
  | .buildSlice _ _ _ => match o.dst with
    | some d => decide (d < 4096)
    | none => false
  | _ => false
/-- x, then p: may they change places? -/
def swapOk (T : TT) (an : FuncId → An) (ops : Array Oper) (x p : Oper) : Bool :=
  x.apart ops p && !isEff an x.op && (!isEff an p.op || isStore p.op || ((isApp p.op || isCallF p.op) && !mkR T x) || (isCallF p.op && isAlloc T x))
/-- No name without a place. -/
def Closed (S : St) : Prop := ∀ v, ∀ g ∈ (S.t v).refs, S.r g ≠ none
theorem Closed.ev {S : St} (h : Closed S) (x : Operand) : ∀ g ∈ (S.ev x).refs, S.r g ≠ none := by
  cases x with
  | tmp t => exact h t
  | const c =>
    intro g hg
    exfalso
    revert hg
    simp only [St.ev]
    unfold ofConst
    split <;> simp [X.refs]
  | global g => intro k hk; simp [St.ev, X.refs] at hk
  | func f => intro k hk; simp [St.ev, X.refs, refsL] at hk
theorem Closed.evs {S : St} (h : Closed S) : ∀ (l : List Operand), ∀ g ∈ refsL (l.map S.ev), S.r g ≠ none
  | [], g, hg => by simp [refsL] at hg
  | x :: l, g, hg => by
    simp only [List.map_cons, refsL, List.mem_append] at hg
    rcases hg with hg | hg
    · exact h.ev x g hg
    · exact h.evs l g hg
theorem opq_nr {T : TT} {call : FuncId → List X → Option (X × List X)} {an : FuncId → An} {r r' : Nat → Option X} {dst : Nat} {o : Op} {xs : List X} (h : readsR o = false) : opq T call an r dst o xs = opq T call an r' dst o xs := by
  cases o <;> simp only [readsR, Bool.true_eq_false] at h <;> rfl
theorem addR_upd {lim : Nat} : ∀ {l : List (Nat × X)} {r r1 : Nat → Option X} {g : Nat} {c c' : X}, r g = some c → addR lim r l = some r1 → addR lim (upd r g (some c')) l = some (upd r1 g (some c'))
  | [], r, r1, g, c, c', hg, h => by simp only [addR, Option.some.injEq] at h ⊢; rw [h]
  | (k, x) :: l, r, r1, g, c, c', hg, h => by
    simp only [addR] at h ⊢
    split at h
    · rename_i hk
      obtain ⟨hk1, hk2⟩ := freeN_none hk
      have hne : k ≠ g := fun e => by subst e; rw [hg] at hk1; cases hk1
      have hk' : freeN lim (upd r g (some c')) k = true := by simp [freeN, upd, hne, hk1, hk2]
      rw [hk']
      simp only
      rw [upd_comm r (Ne.symm hne) (some c') (some x)]
      exact addR_upd (c := c) (by simp [upd, Ne.symm hne, hg]) h
    · cases h
section
variable {T : TT} {call : FuncId → List X → Option (X × List X)} {an : FuncId → An} {ops : Array Oper}
theorem ev_put {S : St} {r' : Nat → Option X} {d : Option Nat} {v : X} {x : Operand} (h : ∀ t, x = .tmp t → d ≠ some t) : (put { S with r := r' } d v).ev x = S.ev x := by
  cases x with
  | tmp t =>
    cases d with
    | none => rfl
    | some d =>
      have : t ≠ d := fun e => h t rfl (by rw [e])
      simp [put, St.ev, upd, this]
  | const c => cases d <;> rfl
  | global g => cases d <;> rfl
  | func f => cases d <;> rfl
theorem operand_looks {o : Oper} {t : Nat} (h : Operand.tmp t ∈ o.op.operands.toList) : t ∈ o.looksAt ops := by
  unfold Oper.looksAt
  exact List.mem_append.2 (.inl (List.mem_filterMap.2 ⟨.tmp t, h, rfl⟩))
/-- What an operation sees does not hang on a slot that it does not look at. -/
theorem look_put {S : St} {r' : Nat → Option X} {d : Option Nat} {v : X} {o : Oper} (h : ∀ t, d = some t → t ∉ o.looksAt ops) :
    o.op.operands.toList.map (put { S with r := r' } d v).ev = o.op.operands.toList.map S.ev ∧ wantedX ops (put { S with r := r' } d v) o = wantedX ops S o := by
  constructor
  · refine List.map_congr_left fun x hx => ev_put fun t ht hd => ?_
    subst ht
    exact h t hd (operand_looks hx)
  · unfold wantedX
    cases hg : o.guard with
    | none => rfl
    | some jw =>
      obtain ⟨j, want⟩ := jw
      simp only
      cases hj : (ops[j]?).bind (·.dst) with
      | none => rfl
      | some e =>
        simp only
        have hl : e ∈ o.looksAt ops := by
          unfold Oper.looksAt
          refine List.mem_append.2 (.inr ?_)
          rw [hg]; simp [hj]
        have : (put { S with r := r' } d v).t e = S.t e := by
          cases d with
          | none => rfl
          | some d =>
            have : e ≠ d := fun he => h d rfl (he ▸ hl)
            simp [put, upd, this]
        rw [this]
theorem swap_quiet {x p : Oper} (hap : x.apart ops p = true) (hx : isEff an x.op = false) (hp : isEff an p.op = false) {S S1 S2 : St} (hcl : Closed S) (h1 : stepD T call an ops S x = some S1) (h2 : stepD T call an ops S1 p = some S2) : ∃ S1', stepD T call an ops S p = some S1' ∧ stepD T call an ops S1' x = some S2 := by
  obtain ⟨a1, a2, a3⟩ := Oper.apart_spec hap
  unfold stepD at h1 h2
  rw [hx] at h1
  rw [hp] at h2
  simp only [Bool.false_eq_true, if_false] at h1 h2
  split at h1
  · rename_i vx nx hqx
    split at h1
    · rename_i r1 hr1
      cases h1
      split at h2
      · rename_i vp np hqp
        split at h2
        · rename_i r2 hr2
          cases h2
          have hr2' : addR nlim r1 np = some r2 := by
            have : (put { S with r := r1 } x.dst vx).r = r1 := by cases x.dst <;> rfl
            rw [this] at hr2; exact hr2
          have hsub1 := addR_sub hr1
          -- p first
          obtain ⟨l1, l2⟩ := look_put (ops := ops) (S := S) (r' := r1) (d := x.dst) (v := vx) (o := p) a1
          have hpr : (put { S with r := r1 } x.dst vx).r = r1 := by cases x.dst <;> rfl
          have hqp' : qD T call an ops S p = some (vp, np) := by
            unfold qD at hqp ⊢
            rw [l2, l1, hpr] at hqp
            split at hqp
            · rename_i hw
              split at hqp
              · rename_i z news hz
                have : opq T call an S.r (dstOf p) p.op (p.op.operands.toList.map S.ev) = some (z, news, []) := by
                  refine opq_sub (fun g hg c hc => ?_) hz
                  have := hcl.evs _ g hg
                  cases hgs : S.r g with
                  | none => exact absurd hgs this
                  | some c0 => rw [hsub1 g c0 hgs] at hc; exact hc
                first | (rw [hw, this]; exact hqp) | (rw [this]; exact hqp)
              · cases hqp
            · rename_i hw; first | exact hqp | (rw [hw]; exact hqp)
            · cases hqp
          obtain ⟨r1', q1, q2⟩ := addR_comm hr1 hr2'
          have hstep1 : stepD T call an ops S p = some (put { S with r := r1' } p.dst vp) := by
            unfold stepD
            rw [hp]
            simp only [Bool.false_eq_true, if_false, hqp', q1]
          refine ⟨_, hstep1, ?_⟩
          obtain ⟨m1, m2⟩ := look_put (ops := ops) (S := S) (r' := r1') (d := p.dst) (v := vp) (o := x) (fun t ht => a3 t ht)
          have hxr : (put { S with r := r1' } p.dst vp).r = r1' := by cases p.dst <;> rfl
          have hqx' : qD T call an ops (put { S with r := r1' } p.dst vp) x = some (vx, nx) := by
            unfold qD at hqx ⊢
            rw [m2, m1, hxr]
            split at hqx
            · rename_i hw
              (try rw [hw])
              split at hqx
              · rename_i z news hz
                rw [opq_sub (fun g _ => addR_sub q1 g) hz]
                exact hqx
              · cases hqx
            · rename_i hw; first | exact hqx | (rw [hw]; exact hqx)
            · cases hqx
          unfold stepD
          rw [hx]
          simp only [Bool.false_eq_true, if_false, hqx', hxr, q2]
          congr 1
          cases hdx : x.dst with
          | none => cases hdp : p.dst <;> rfl
          | some dx =>
            cases hdp : p.dst with
            | none => rfl
            | some dp =>
              have hne : dx ≠ dp := fun e => a2 dx hdx (by rw [hdp, e])
              simp only [put]
              rw [upd_comm S.t hne vx vp]
        · cases h2
      · cases h2
    · cases h1
  · cases h1

theorem storeIn_eq {S : St} {ti : TI} {g off : Nat} {p : List Nat} {v z : X} {S' : St} (h : storeIn S ti g off p v = some (z, S')) : ∃ c, S.r g = some c ∧ z = .bot ∧ S' = { S with r := upd S.r g (some (setAt c p v)) } ∧ ∀ (t : Nat → X) (r : Nat → Option X), r g = some c → storeIn { t := t, r := r } ti g off p v = some (.bot, { t := t, r := upd r g (some (setAt c p v)) }) := by
  unfold storeIn at h
  split at h
  · rename_i c hc
    split at h
    · rename_i y o' hn
      split at h
      · rename_i hcond
        simp only [Option.some.injEq, Prod.mk.injEq] at h
        obtain ⟨rfl, rfl⟩ := h
        refine ⟨c, hc, rfl, rfl, fun t r hr => ?_⟩
        unfold storeIn
        simp only [hr, hn]
        rw [if_pos hcond]
      · cases h
    · cases h
  · cases h
/-- A store hangs on the place alone that it writes. -/
theorem storeX_eq {S : St} {t : Nat} {g off : Nat} {path : List Nat} {v z : X} {S' : St} {c : X} (hc : S.r g = some c) (hin : inAr c path = false ∨ v.refs = []) (h : storeX T S t (.pt g off path) v = some (z, S')) :
    ∃ c', z = .bot ∧ S' = { S with r := upd S.r g (some c') } ∧ ∀ (t' : Nat → X) (r : Nat → Option X), r g = some c → storeX T { t := t', r := r } t (.pt g off path) v = some (.bot, { t := t', r := upd r g (some c') }) := by
  unfold storeX at h
  simp only [hc] at h
  split at h
  · rename_i ti c2 hti he
    cases he
    split at h
    · rename_i hia
      have hv : v.refs = [] := by rcases hin with hin | hin; rw [hin] at hia; cases hia; exact hin
      split at h
      · rename_i v' S2 hv' hS2
        rw [hv] at hS2
        simp only [EV.freezeL, Option.some.injEq] at hS2
        subst hS2
        obtain ⟨c3, h1, h2, h3, h4⟩ := storeIn_eq h
        rw [hc] at h1; cases h1
        refine ⟨_, h2, h3, fun t' r hr => ?_⟩
        unfold storeX
        simp only [hr, hti, if_pos hia, hv, EV.freezeL]
        have : frw r v = some v' := frw_sub (fun k hk => by rw [hv] at hk; cases hk) hv'
        simp only [this]
        exact h4 t' r hr
      · cases h
    · rename_i hia
      obtain ⟨c3, h1, h2, h3, h4⟩ := storeIn_eq h
      rw [hc] at h1; cases h1
      refine ⟨_, h2, h3, fun t' r hr => ?_⟩
      unfold storeX
      simp only [hr, hti, if_neg hia]
      exact h4 t' r hr
  · cases h
theorem put_r {S : St} {d : Option Nat} {v : X} : (put S d v).r = S.r := by cases d <;> rfl
theorem put_comm {t : Nat → X} {r : Nat → Option X} {d e : Option Nat} {x y : X} (h : ∀ k, d = some k → e ≠ some k) : put (put { t := t, r := r } d x) e y = put (put { t := t, r := r } e y) d x := by
  cases d with
  | none => rfl
  | some d =>
    cases e with
    | none => rfl
    | some e =>
      have hne : d ≠ e := fun he => h d rfl (by rw [he])
      simp only [put]
      rw [upd_comm t hne x y]
theorem swap_store {x p : Oper} (hap : x.apart ops p = true) (hx : isEff an x.op = false) {t : Nat} {y z : Operand} (hop : p.op = .store t y z) {S S1 S2 : St} (hcl : Closed S)
    (hf : wantedX ops S p = some true → ∃ g off path c, S.ev y = .pt g off path ∧ S1.r g = some c ∧ (inAr c path = false ∨ (S.ev z).refs = []) ∧ (readsR x.op = true → g ∉ refsL (x.op.operands.toList.map S.ev)))
    (h1 : stepD T call an ops S x = some S1) (h2 : stepD T call an ops S1 p = some S2) : ∃ S1', stepD T call an ops S p = some S1' ∧ stepD T call an ops S1' x = some S2 := by
  obtain ⟨a1, a2, a3⟩ := Oper.apart_spec hap
  have hp : isEff an p.op = true := by rw [hop]; rfl
  unfold stepD at h1 h2
  rw [hx] at h1
  rw [hp] at h2
  simp only [Bool.false_eq_true, if_false, if_true] at h1 h2
  split at h1
  · rename_i vx nx hqx
    split at h1
    · rename_i r1 hr1
      cases h1
      have hsub1 := addR_sub hr1
      obtain ⟨l1, l2⟩ := look_put (ops := ops) (S := S) (r' := r1) (d := x.dst) (v := vx) (o := p) a1
      rw [l2] at h2
      -- x behind it
      have back : ∀ (rp r2 : Nat → Option X) (vp : X), (∀ q, opq T call an S.r (dstOf x) x.op (x.op.operands.toList.map S.ev) = some q → opq T call an rp (dstOf x) x.op (x.op.operands.toList.map S.ev) = some q) → addR nlim rp nx = some r2 →
          stepD T call an ops (put { S with r := rp } p.dst vp) x = some (put (put { S with r := r2 } p.dst vp) x.dst vx) := by
        intro rp r2 vp ho hr
        obtain ⟨m1, m2⟩ := look_put (ops := ops) (S := S) (r' := rp) (d := p.dst) (v := vp) (o := x) (fun t ht => a3 t ht)
        have hqx' : qD T call an ops (put { S with r := rp } p.dst vp) x = some (vx, nx) := by
          unfold qD at hqx ⊢
          rw [m2, m1, put_r]
          split at hqx
          · rename_i hw
            (try rw [hw])
            split at hqx
            · rename_i z news hz
              rw [ho _ hz]
              exact hqx
            · cases hqx
          · rename_i hw; first | exact hqx | (rw [hw]; exact hqx)
          · cases hqx
        unfold stepD
        rw [hx]
        simp only [Bool.false_eq_true, if_false, hqx', put_r, hr]
        congr 1
        cases p.dst <;> rfl
      split at h2
      · rename_i hw
        obtain ⟨g, off, path, c, hy, hc1, hin, hread⟩ := hf hw
        rw [put_r] at hc1
        have hgn : S.r g ≠ none := hcl.ev y g (by rw [hy]; simp [X.refs])
        have hc : S.r g = some c := by
          cases hgs : S.r g with
          | none => exact absurd hgs hgn
          | some c0 =>
            have e1 := hsub1 g c0 hgs
            have e2 : r1 g = some c := hc1
            rw [e1] at e2; exact e2
        unfold opStep at h2
        rw [if_pos hp, l1, hop] at h2
        simp only [eff, Op.operands, List.map_cons, List.map_nil, hy] at h2
        split at h2
        · rename_i q S3 hst
          cases h2
          have hst' : storeX T (put { S with r := r1 } x.dst vx) t (.pt g off path) (S.ev z) = some (q, S3) := hst
          obtain ⟨c', rfl, rfl, h4⟩ := storeX_eq (T := T) (S := put { S with r := r1 } x.dst vx) (by rw [put_r]; exact hc1) hin hst'
          have hstep1 : stepD T call an ops S p = some (put { S with r := upd S.r g (some c') } p.dst .bot) := by
            unfold stepD
            rw [hp]
            simp only [if_true, hw]
            unfold opStep
            rw [if_pos hp, hop]
            simp only [eff, Op.operands, List.map_cons, List.map_nil, hy]
            have h5 := h4 S.t S.r hc
            have h6 : storeX T S t (.pt g off path) (S.ev z) = some (.bot, { S with r := upd S.r g (some c') }) := h5
            rw [h6]
          refine ⟨_, hstep1, ?_⟩
          rw [back (upd S.r g (some c')) (upd r1 g (some c')) .bot (fun q hq => ?_) (addR_upd hc hr1)]
          · congr 1
            rw [put_comm (fun k hk => fun e => a2 k e hk)]
            cases x.dst <;> rfl
          · cases hrd : readsR x.op with
            | false => rw [← opq_nr (r := S.r) hrd]; exact hq
            | true =>
              have hng := hread hrd
              exact opq_sub (fun k hk c hkc => by
                have : k ≠ g := fun e => hng (e ▸ hk)
                simpa [upd, this] using hkc) hq
        · cases h2
      · rename_i hw
        cases h2
        refine ⟨put S p.dst (.tup []), ?_, ?_⟩
        · unfold stepD
          rw [hp]
          simp only [if_true, hw]
        · have := back S.r r1 (.tup []) (fun q hq => hq) hr1
          have e1 : (put { S with r := S.r } p.dst (.tup [])) = put S p.dst (.tup []) := rfl
          rw [e1] at this
          rw [this]
          congr 1
          exact put_comm (fun k hk => fun e => a2 k e hk)
      · cases h2
    · cases h1
  · cases h1

theorem kill_false (x : X) : x.kill (fun _ => false) = x := kill_id _ x (by simp)
theorem appendX_eq {S S' : St} {dst : Nat} {ts : Array Nat} {x y z : X} (h : appendX T S dst ts x y = some (z, S')) :
    ∃ (q : Nat → Bool) (c : X), z = .hw dst ∧ (∀ k, q k = true → x.refs = [k] ∧ (x = .hw k ∨ ∃ lo len f, x = .hd k lo len f)) ∧ (q dst = true ∨ S.r dst = none) ∧ S' = { t := fun v => (S.t v).kill q, r := upd (fun k => if q k then none else (S.r k).map (X.kill q)) dst (some c) } ∧
      ∀ t' : Nat → X, appendX T { t := t', r := S.r } dst ts x y = some (.hw dst, { t := fun v => (t' v).kill q, r := upd (fun k => if q k then none else (S.r k).map (X.kill q)) dst (some c) }) := by
  have growD : ∀ {g d : Nat} {c : List X} {z : X} {S' : St}, growX (drop S g) dst d c = some (z, S') → z = .hw dst ∧ ((g == dst) = true ∨ S.r dst = none) ∧ S' = { t := fun v => (S.t v).kill (· == g), r := upd (fun k => if k == g then none else (S.r k).map (X.kill (· == g))) dst (some (.ar d c)) } ∧
      ∀ t' : Nat → X, growX (drop { t := t', r := S.r } g) dst d c = some (.hw dst, { t := fun v => (t' v).kill (· == g), r := upd (fun k => if k == g then none else (S.r k).map (X.kill (· == g))) dst (some (.ar d c)) }) := by
    intro g d c z S' h
    unfold growX at h
    split at h
    · rename_i hf
      cases h
      refine ⟨rfl, ?_, rfl, fun t' => ?_⟩
      · have := (freeN_none hf).1
        simp only [drop, dropIf] at this
        split at this
        · rename_i e; exact .inl (by rw [beq_iff_eq] at e ⊢; exact e.symm)
        · exact .inr (by simpa using this)
      · have hf' : freeN nlim (drop { t := t', r := S.r } g).r dst = true := hf
        simp only [growX, hf']
        rfl
    · cases h
  have growN : ∀ {d : Nat} {c : List X} {z : X} {S' : St}, growX S dst d c = some (z, S') → z = .hw dst ∧ S.r dst = none ∧ S' = { t := S.t, r := upd S.r dst (some (.ar d c)) } ∧
      ∀ t' : Nat → X, growX { t := t', r := S.r } dst d c = some (.hw dst, { t := t', r := upd S.r dst (some (.ar d c)) }) := by
    intro d c z S' h
    unfold growX at h
    split at h
    · rename_i hf
      cases h
      refine ⟨rfl, (freeN_none hf).1, rfl, fun t' => ?_⟩
      have hf' : freeN nlim ({ t := t', r := S.r } : St).r dst = true := hf
      simp only [growX, hf']
    · cases h
  unfold appendX at h
  split at h
  · rename_i e _ _ _ ht0
    split at h
    · rename_i ei ys he hm
      split at h
      · rename_i hh
        split at h
        · rename_i g
          split at h
          · rename_i d c hg
            split at h
            · rename_i hh2
              obtain ⟨h1, h2, h3, h4⟩ := growD h
              refine ⟨(· == g), _, h1, fun k hk => ?_, h2.imp (fun e => by rw [beq_iff_eq] at e ⊢; exact e.symm) id, h3, fun t' => ?_⟩
              · have : k = g := by simpa using hk
                subst this
                exact ⟨rfl, .inl rfl⟩
              · simp only [appendX, ht0, he, hm, if_pos hh, hg, if_pos hh2, h4 t']
            · cases h
          · cases h
        · rename_i g lo len f
          split at h
          · rename_i d c hg
            split at h
            · rename_i hh2
              obtain ⟨h1, h2, h3, h4⟩ := growD h
              refine ⟨(· == g), _, h1, fun k hk => ?_, h2.imp (fun e => by rw [beq_iff_eq] at e ⊢; exact e.symm) id, h3, fun t' => ?_⟩
              · have : k = g := by simpa using hk
                subst this
                exact ⟨rfl, .inr ⟨lo, len, f, rfl⟩⟩
              · simp only [appendX, ht0, he, hm, if_pos hh, hg, if_pos hh2, h4 t']
            · cases h
          · cases h
        · rename_i zs
          split at h
          · rename_i hh2
            obtain ⟨h1, h2, h3, h4⟩ := growN h
            refine ⟨fun _ => false, .ar ei.size (zs ++ ys), h1, (fun k hk => by cases hk), .inr h2, ?_, fun t' => ?_⟩
            · rw [h3]
              have e1 : (fun v => (S.t v).kill fun _ => false) = S.t := by funext v; exact kill_false _
              have e2 : (fun k => if (fun _ : Nat => false) k = true then none else (S.r k).map (X.kill fun _ => false)) = S.r := by
                funext k
                simp only [Bool.false_eq_true, if_false]
                cases S.r k with
                | none => rfl
                | some c => simp [kill_false]
              rw [e1, e2]
            · have e1 : (fun v => (t' v).kill fun _ => false) = t' := by funext v; exact kill_false _
              have e2 : (fun k => if (fun _ : Nat => false) k = true then none else (S.r k).map (X.kill fun _ => false)) = S.r := by
                funext k
                simp only [Bool.false_eq_true, if_false]
                cases S.r k with
                | none => rfl
                | some c => simp [kill_false]
              rw [e1, e2]
              simp only [appendX, ht0, he, hm, if_pos hh, if_pos hh2, h4 t']
          · cases h
        · cases h
      · cases h
    · cases h
  · cases h
theorem qD_quiet {x : Oper} {S : St} {v : X} {n : List (Nat × X)} (hmk : mkR T x = false) (h : qD T call an ops S x = some (v, n)) : n = [] := by
  unfold qD at h
  split at h
  · split at h
    · split at h
      · rename_i hm
        simp only [hmk, Bool.false_or, List.isEmpty_iff] at hm
        cases h
        exact hm
      · cases h
    · cases h
  · cases h; rfl
  · cases h
theorem swap_app {x p : Oper} (hap : x.apart ops p = true) (hx : isEff an x.op = false) (hmk : mkR T x = false) {c : Call} (hop : p.op = .call c) (hcal : c.callee = .builtin .append) {S S1 S2 : St} (hcl : Closed S)
    (hf : wantedX ops S p = some true → ∀ g, (p.op.operands.toList.map S.ev).headD .bot = .hw g ∨ (∃ lo len f, (p.op.operands.toList.map S.ev).headD .bot = .hd g lo len f) → g ∉ refsL (x.op.operands.toList.map S.ev) ∧ (∀ d, x.dst = some d → g ∉ (S1.t d).refs) ∧ (readsR x.op = true → ∀ h ∈ refsL (x.op.operands.toList.map S.ev), ∀ cc, S.r h = some cc → g ∉ cc.refs))
    (h1 : stepD T call an ops S x = some S1) (h2 : stepD T call an ops S1 p = some S2) : ∃ S1', stepD T call an ops S p = some S1' ∧ stepD T call an ops S1' x = some S2 := by
  obtain ⟨a1, a2, a3⟩ := Oper.apart_spec hap
  have hp : isEff an p.op = true := by rw [hop]; simp only [isEff, hcal]
  unfold stepD at h1 h2
  rw [hx] at h1
  rw [hp] at h2
  simp only [Bool.false_eq_true, if_false, if_true] at h1 h2
  split at h1
  · rename_i vx nx hqx
    have hnx := qD_quiet hmk hqx
    subst hnx
    simp only [addR, Option.some.injEq] at h1
    subst h1
    have hSr : ({ S with r := S.r } : St) = S := rfl
    rw [hSr] at h2 hf
    obtain ⟨l1, l2⟩ := look_put (ops := ops) (S := S) (r' := S.r) (d := x.dst) (v := vx) (o := p) a1
    rw [hSr] at l1 l2
    rw [l2] at h2
    -- x behind it
    have back : ∀ (t' : Nat → X) (rp : Nat → Option X) (vp : X), (∀ o ∈ x.op.operands.toList, ({ t := t', r := rp } : St).ev o = S.ev o) → wantedX ops { t := t', r := rp } x = wantedX ops S x → (∀ q, opq T call an S.r (dstOf x) x.op (x.op.operands.toList.map S.ev) = some q → opq T call an rp (dstOf x) x.op (x.op.operands.toList.map S.ev) = some q) →
        stepD T call an ops (put { t := t', r := rp } p.dst vp) x = some (put (put { t := t', r := rp } p.dst vp) x.dst vx) := by
      intro t' rp vp he hw ho
      obtain ⟨m1, m2⟩ := look_put (ops := ops) (S := { t := t', r := rp }) (r' := rp) (d := p.dst) (v := vp) (o := x) (fun t ht => a3 t ht)
      have m1' : x.op.operands.toList.map (put { t := t', r := rp } p.dst vp).ev = x.op.operands.toList.map S.ev := by
        rw [m1]; exact List.map_congr_left he
      have m2' : wantedX ops (put { t := t', r := rp } p.dst vp) x = wantedX ops S x := m2.trans hw
      have hqx' : qD T call an ops (put { t := t', r := rp } p.dst vp) x = some (vx, []) := by
        unfold qD at hqx ⊢
        rw [m2', m1', put_r]
        split at hqx
        · rename_i hw
          (try rw [hw])
          split at hqx
          · rename_i z news hz
            rw [ho _ hz]
            exact hqx
          · cases hqx
        · rename_i hw; first | exact hqx | (rw [hw]; exact hqx)
        · cases hqx
      unfold stepD
      rw [hx]
      simp only [Bool.false_eq_true, if_false, hqx', addR]
    split at h2
    · rename_i hw
      have hf' := hf hw
      unfold opStep at h2
      rw [if_pos hp, l1, hop] at h2
      have hco : c.operands = c.args := by simp [Call.operands, hcal]
      simp only [eff, hcal] at h2
      split at h2
      · rename_i z0 S3 hst0
        cases h2
        split at hst0
        · rename_i y1 y2 hyy
          have hst1 : appendX T (put S x.dst vx) (dstOf p) c.argTypes y1 y2 = some (z0, S3) := hst0
          obtain ⟨q, cc, rfl, hq1, hq2, rfl, hq4⟩ := appendX_eq hst1
          rw [put_r] at hq2 hq4
          have hhead : (p.op.operands.toList.map S.ev).headD .bot = y1 := by rw [hop, hyy]; rfl
          have hkq : ∀ k, q k = true → k ∉ refsL (x.op.operands.toList.map S.ev) ∧ (∀ d, x.dst = some d → k ∉ ((put S x.dst vx).t d).refs) ∧ (readsR x.op = true → ∀ h ∈ refsL (x.op.operands.toList.map S.ev), ∀ cc, S.r h = some cc → k ∉ cc.refs) := by
            intro k hk
            refine hf' k ?_
            rw [hhead]
            exact (hq1 k hk).2
          have hstep1 : stepD T call an ops S p = some (put { t := fun v => (S.t v).kill q, r := upd (fun k => if q k then none else (S.r k).map (X.kill q)) (dstOf p) (some cc) } p.dst (.hw (dstOf p))) := by
            unfold stepD
            rw [hp]
            simp only [if_true, hw]
            unfold opStep
            rw [if_pos hp, hop]
            simp only [eff, hcal, hyy]
            have h5 := hq4 S.t
            have h6 : appendX T S (dstOf p) c.argTypes y1 y2 = some (.hw (dstOf p), { t := fun v => (S.t v).kill q, r := upd (fun k => if q k then none else (S.r k).map (X.kill q)) (dstOf p) (some cc) }) := h5
            rw [h6]
          have noany : ∀ l : List Nat, (∀ k ∈ l, q k = false) → l.any q = false := fun l hl => by
            rw [List.any_eq_false]; intro k hk; rw [hl k hk]; simp
          have b1 : ∀ o ∈ x.op.operands.toList, ({ t := fun v => (S.t v).kill q, r := upd (fun k => if q k then none else (S.r k).map (X.kill q)) (dstOf p) (some cc) } : St).ev o = S.ev o := by
            intro o ho
            cases o with
            | tmp t =>
              show (S.t t).kill q = S.t t
              refine kill_id q _ (noany _ fun k hk => ?_)
              cases hqk : q k with
              | false => rfl
              | true =>
                exfalso
                refine (hkq k hqk).1 ?_
                have : ∀ (l : List Operand), Operand.tmp t ∈ l → k ∈ refsL (l.map S.ev) := by
                  intro l
                  induction l with
                  | nil => intro h; simp at h
                  | cons a l ih =>
                    intro h
                    simp only [List.map_cons, refsL, List.mem_append]
                    rcases List.mem_cons.1 h with rfl | h
                    · exact .inl hk
                    · exact .inr (ih h)
                exact this _ ho
            | const v => rfl
            | global g => rfl
            | func f => rfl
          have b2 : wantedX ops { t := fun v => (S.t v).kill q, r := upd (fun k => if q k then none else (S.r k).map (X.kill q)) (dstOf p) (some cc) } x = wantedX ops S x := by
            unfold wantedX
            cases hg : x.guard with
            | none => rfl
            | some jw =>
              obtain ⟨j, want⟩ := jw
              simp only
              cases hj : (ops[j]?).bind (·.dst) with
              | none => rfl
              | some e =>
                simp only
                have wv : ∀ y : X, (match y.kill q with | .b v => some (v == want) | .tup [] => some false | _ => none) = (match y with | .b v => some (v == want) | .tup [] => some false | _ => none) := by
                  intro y
                  cases y with
                  | tup xs => cases xs <;> rfl
                  | hw k => simp only [X.kill]; by_cases hqk : q k = true <;> simp [hqk]
                  | hd k lo len f => simp only [X.kill]; by_cases hqk : q k = true <;> simp [hqk]
                  | pt k o pp => simp only [X.kill]; by_cases hqk : q k = true <;> simp [hqk]
                  | fn f cp => simp only [X.kill]; by_cases hqk : (refsL cp).any q = true <;> simp [hqk]
                  | _ => rfl
                exact wv (S.t e)
          have b3 : ∀ w, opq T call an S.r (dstOf x) x.op (x.op.operands.toList.map S.ev) = some w → opq T call an (upd (fun k => if q k then none else (S.r k).map (X.kill q)) (dstOf p) (some cc)) (dstOf x) x.op (x.op.operands.toList.map S.ev) = some w := by
            intro w hw'
            cases hrd : readsR x.op with
            | false => rw [← opq_nr (r := S.r) hrd]; exact hw'
            | true =>
              refine opq_sub (fun k hk ck hck => ?_) hw'
              have hkn : q k = false := by
                cases hqk : q k with
                | false => rfl
                | true => exact absurd hk (hkq k hqk).1
              have hkd : k ≠ dstOf p := by
                intro e
                rcases hq2 with h8 | h8
                · rw [← e, hkn] at h8; cases h8
                · rw [← e, hck] at h8; cases h8
              simp only [upd, hkd, if_false, hkn, Bool.false_eq_true, hck, Option.map_some]
              congr 1
              refine kill_id q ck (noany _ fun m hm => ?_)
              cases hqm : q m with
              | false => rfl
              | true => exact absurd hm ((hkq m hqm).2.2 hrd k hk ck hck)
          refine ⟨_, hstep1, ?_⟩
          rw [back (fun v => (S.t v).kill q) _ (.hw (dstOf p)) b1 b2 b3]
          congr 1
          rw [put_comm (fun k hk => fun e => a2 k e hk)]
          congr 1
          rw [put_r]
          have et : (fun v => ((put S x.dst vx).t v).kill q) = (put { t := fun v => (S.t v).kill q, r := S.r } x.dst vx).t := by
            funext v
            cases hxd : x.dst with
            | none => rfl
            | some d =>
              simp only [put, upd]
              split
              · rename_i e
                refine kill_id q vx (noany _ fun k hk => ?_)
                cases hqk : q k with
                | false => rfl
                | true =>
                  have h7 := (hkq k hqk).2.1 d hxd
                  rw [hxd] at h7
                  simp only [put, upd, if_pos] at h7
                  exact absurd hk h7
              · rfl
          rw [et]
          cases x.dst <;> rfl
        · cases hst0
      · cases h2
    · rename_i hw
      cases h2
      refine ⟨put S p.dst (.tup []), ?_, ?_⟩
      · unfold stepD
        rw [hp]
        simp only [if_true, hw]
      · have := back S.t S.r (.tup []) (fun _ _ => rfl) rfl (fun q hq => hq)
        have e1 : (put { t := S.t, r := S.r } p.dst (.tup [])) = put S p.dst (.tup []) := rfl
        rw [e1] at this
        rw [this]
        congr 1
        exact put_comm (fun k hk => fun e => a2 k e hk)
    · cases h2
  · cases h1
/-! ### a call to which places go over, ahead of what leaves them alone -/
theorem reachN_sub {r r' : Nat → Option X} (h : RSub r r') : ∀ {n : Nat} {l : List Nat} {g : Nat}, g ∈ reachN n r l → g ∈ reachN n r' l
  | 0, l, g, hg => hg
  | n + 1, l, g, hg => by
    simp only [reachN, List.mem_append] at hg ⊢
    refine hg.imp id fun hg => ?_
    have mono : ∀ {n : Nat} {l m : List Nat} {g : Nat}, (∀ x ∈ l, x ∈ m) → g ∈ reachN n r' l → g ∈ reachN n r' m := by
      intro n
      induction n with
      | zero => intro l m g hl hg; exact hl g hg
      | succ n ih =>
        intro l m g hl hg
        simp only [reachN, List.mem_append] at hg ⊢
        refine hg.imp (hl g) fun hg => ih (fun x hx => ?_) hg
        obtain ⟨y, hy, hxy⟩ := List.mem_flatMap.1 hx
        exact List.mem_flatMap.2 ⟨y, hl y hy, hxy⟩
    refine mono (fun x hx => ?_) (reachN_sub h hg)
    obtain ⟨y, hy, hxy⟩ := List.mem_flatMap.1 hx
    refine List.mem_flatMap.2 ⟨y, hy, ?_⟩
    cases hry : r y with
    | none => rw [hry] at hxy; simp at hxy
    | some c => rw [hry] at hxy; rw [h y c hry]; exact hxy
theorem reachN_mono {r : Nat → Option X} : ∀ {n : Nat} {l m : List Nat} {g : Nat}, (∀ x ∈ l, x ∈ m) → g ∈ reachN n r l → g ∈ reachN n r m
  | 0, l, m, g, hl, hg => hl g hg
  | n + 1, l, m, g, hl, hg => by
    simp only [reachN, List.mem_append] at hg ⊢
    refine hg.imp (hl g) fun hg => reachN_mono (fun x hx => ?_) hg
    obtain ⟨y, hy, hxy⟩ := List.mem_flatMap.1 hx
    exact List.mem_flatMap.2 ⟨y, hl y hy, hxy⟩
theorem reachN_self {r : Nat → Option X} {n : Nat} {l : List Nat} {g : Nat} (h : g ∈ l) : g ∈ reachN n r l := by
  cases n with
  | zero => exact h
  | succ n => simp only [reachN, List.mem_append]; exact .inl h
/-- What is gone was reached. -/
def Gave (n : Nat) (r r' : Nat → Option X) (l : List Nat) : Prop := ∀ g, r' g = r g ∨ (r' g = none ∧ ∀ r0, RSub r r0 → g ∈ reachN n r0 l)
theorem Gave.refl (n : Nat) (r : Nat → Option X) (l : List Nat) : Gave n r r l := fun _ => .inl rfl
theorem Gave.sub {n : Nat} {r r' : Nat → Option X} {l : List Nat} (h : Gave n r r' l) : RSub r' r := fun g c hg => by
  rcases h g with e | e
  · rw [← e]; exact hg
  · rw [e.1] at hg; cases hg
theorem Gave.trans {n : Nat} {r r1 r2 : Nat → Option X} {l m : List Nat} (h1 : Gave n r r1 l) (h2 : Gave n r1 r2 m) : Gave n r r2 (l ++ m) := fun g => by
  rcases h2 g with e2 | e2
  · rcases h1 g with e1 | e1
    · exact .inl (e2.trans e1)
    · exact .inr ⟨e2.trans e1.1, fun r0 h0 => reachN_mono (fun x hx => List.mem_append.2 (.inl hx)) (e1.2 r0 h0)⟩
  · exact .inr ⟨e2.1, fun r0 h0 => reachN_mono (fun x hx => List.mem_append.2 (.inr hx)) (e2.2 r0 fun k c hk => h0 k c (h1.sub k c hk))⟩
theorem Gave.one {n : Nat} {r : Nat → Option X} {g : Nat} : Gave (n + 1) r (upd r g none) [g] := fun k => by
  by_cases e : k = g
  · subst e; exact .inr ⟨by simp [upd], fun r0 _ => reachN_self (by simp)⟩
  · exact .inl (by simp [upd, e])
mutual
theorem reiX_gave {deep : (Nat → Option X) → X → Option (X × (Nat → Option X))} {n : Nat} (hd : ∀ r y q, deep r y = some q → Gave n r q.2 y.refs) : ∀ (x : X) (r : Nat → Option X) (q : X × (Nat → Option X)), reiX deep r x = some q → Gave (n + 1) r q.2 x.refs
  | .ag xs, r, q, h => by
    simp only [reiX] at h
    obtain ⟨p, hp, rfl⟩ := Option.map_eq_some_iff.1 h
    simpa only [X.refs] using reiL_gave hd xs r p hp
  | .hw g, r, q, h => by
    simp only [reiX] at h
    split at h
    · cases h; simp only [X.refs]; exact Gave.one
    · cases h
  | .hd g lo len f, r, q, h => by
    simp only [reiX] at h
    split at h
    · cases h; simp only [X.refs]; exact Gave.one
    · cases h
  | .pt g off p, r, q, h => by
    simp only [reiX] at h
    split at h
    · split at h
      · rename_i y hy
        split at h
        · obtain ⟨p', hp, rfl⟩ := Option.map_eq_some_iff.1 h
          have h1 := hd _ _ _ hp
          intro k
          simp only [X.refs]
          rcases h1 k with e | e
          · rcases Gave.one (n := n) (r := r) (g := g) k with e1 | e1
            · exact .inl (e.trans e1)
            · exact .inr ⟨e.trans e1.1, e1.2⟩
          · refine .inr ⟨e.1, fun r0 h0 => ?_⟩
            have h2 := e.2 r0 (fun j c hj => by
              unfold upd at hj
              split at hj
              · cases hj
              · exact h0 j c hj)
            simp only [reachN, List.mem_append]
            refine .inr (reachN_mono (fun x hx => ?_) h2)
            simp [h0 g y hy, hx]
        · cases h
      · cases h
    · cases h
  | .b _, r, q, h | .i _ _, r, q, h | .s _, r, q, h | .ar _ _, r, q, h | .sl _ _, r, q, h | .np, r, q, h | .pf _, r, q, h | .nm, r, q, h | .nf, r, q, h => by
    simp only [reiX, Option.some.injEq] at h
    subst h
    exact Gave.refl _ _ _
  | .bot, r, q, h | .tup _, r, q, h | .fn _ _, r, q, h | .ow _ _, r, q, h | .ob _, r, q, h => by simp [reiX] at h
theorem reiL_gave {deep : (Nat → Option X) → X → Option (X × (Nat → Option X))} {n : Nat} (hd : ∀ r y q, deep r y = some q → Gave n r q.2 y.refs) : ∀ (xs : List X) (r : Nat → Option X) (q : List X × (Nat → Option X)), reiL deep r xs = some q → Gave (n + 1) r q.2 (refsL xs)
  | [], r, q, h => by simp only [reiL, Option.some.injEq] at h; subst h; exact Gave.refl _ _ _
  | x :: xs, r, q, h => by
    simp only [reiL] at h
    split at h
    · rename_i p hp
      obtain ⟨p', hp', rfl⟩ := Option.map_eq_some_iff.1 h
      simpa only [refsL] using (reiX_gave hd x r p hp).trans (reiL_gave hd xs p.2 p' hp')
    · cases h
end
theorem rei_gave : ∀ (n : Nat) (r : Nat → Option X) (y : X) (q : X × (Nat → Option X)), rei n r y = some q → Gave n r q.2 y.refs
  | 0, r, y, q, h => by simp [rei] at h
  | n + 1, r, y, q, h => reiX_gave (rei_gave n) y r q h
theorem giveL_gave : ∀ (ms : List Md) (r : Nat → Option X) (xs : List X) (q : List X × (Nat → Option X)), giveL ms r xs = some q → Gave 8 r q.2 (refsL xs)
  | _, r, [], q, h => by simp only [giveL, Option.some.injEq] at h; subst h; exact Gave.refl _ _ _
  | ms, r, x :: xs, q, h => by
    simp only [giveL] at h
    split at h
    · obtain ⟨p, hp, rfl⟩ := Option.map_eq_some_iff.1 h
      have h1 := giveL_gave ms.tail r xs p hp
      simpa only [refsL] using (Gave.refl 8 r x.refs).trans h1
    all_goals
      split at h
      · rename_i y hy
        obtain ⟨p, hp, rfl⟩ := Option.map_eq_some_iff.1 h
        simpa only [refsL] using (rei_gave 8 r x y hy).trans (giveL_gave ms.tail y.2 xs p hp)
      · cases h
theorem rdL_refs : ∀ (ms : List Md) (xs : List X) (g : Nat), g ∈ refsL (rdL ms xs) → g ∈ refsL xs
  | _, [], g, h => by simp [rdL, refsL] at h
  | ms, x :: xs, g, h => by
    simp only [rdL] at h
    simp only [refsL, List.mem_append]
    split at h
    · simp only [refsL, List.mem_append] at h
      exact h.imp id (rdL_refs ms.tail xs g)
    all_goals exact .inr (rdL_refs ms.tail xs g h)
theorem topOf_refs {x : X} {g : Nat} (h : topOf x = some g) : g ∈ x.refs := by
  unfold topOf at h
  split at h
  · cases h; simp [X.refs]
  · cases h; simp [X.refs]
  · cases h
theorem backL_refs : ∀ (ms : List Md) (xs os : List X) (q : List Nat × List X), backL ms xs os = some q → ∀ g ∈ q.1, g ∈ refsL xs
  | _, [], os, q, h, g, hg => by simp only [backL, Option.some.injEq] at h; subst h; simp at hg
  | ms, x :: xs, os, q, h, g, hg => by
    simp only [backL] at h
    simp only [refsL, List.mem_append]
    split at h
    · split at h
      · split at h
        · rename_i k c p hk hc hp
          cases h
          rcases List.mem_cons.1 hg with rfl | hg
          · exact .inl (topOf_refs hk)
          · exact .inr (backL_refs ms.tail xs _ p hp g hg)
        · cases h
      · cases h
    all_goals exact .inr (backL_refs ms.tail xs _ q h g hg)
theorem setTops_eq : ∀ {tops : List Nat} {ys : List X} {r r' : Nat → Option X}, setTops r tops ys = some r' → ∀ h, h ∉ tops → r' h = r h
  | [], ys, r, r', hs, h, hh => by simp only [setTops, Option.some.injEq] at hs; rw [hs]
  | g :: gs, ys, r, r', hs, h, hh => by
    simp only [setTops] at hs
    split at hs
    · split at hs
      · have := setTops_eq hs h (fun hx => hh (by simp [hx]))
        rw [this]
        simp only [upd]
        rw [if_neg (fun e => hh (by simp [e]))]
      · cases hs
    · cases hs
theorem freezeL_frame : ∀ {l : List Nat} {S S1 : St}, freezeL S l = some S1 → ∃ τ : X → X, (∀ t', freezeL { S with t := t' } l = some { t := fun v => τ (t' v), r := S1.r }) ∧ (∀ x : X, (∀ g ∈ x.refs, g ∉ l) → τ x = x) ∧ (∀ h c, S.r h = some c → h ∉ l → (∀ g ∈ c.refs, g ∉ l) → S1.r h = some c)
  | [], S, S1, h => by
    simp only [freezeL, Option.some.injEq] at h
    subst h
    exact ⟨id, fun _ => rfl, fun _ _ => rfl, fun _ _ h _ _ => h⟩
  | g :: gs, S, S1, h => by
    simp only [freezeL] at h
    split at h
    · rename_i hg
      obtain ⟨τ, h1, h2, h3⟩ := freezeL_frame h
      refine ⟨τ, fun t' => ?_, fun x hx => h2 x fun k hk hk' => hx k hk (by simp [hk']), fun k c hk hn hc => h3 k c hk (fun hk' => hn (by simp [hk'])) fun j hj hj' => hc j hj (by simp [hj'])⟩
      simp only [freezeL, hg]
      exact h1 t'
    · rename_i cg hg
      split at h
      · rename_i S' hS'
        obtain ⟨τ, h1, h2, h3⟩ := freezeL_frame h
        unfold freeze at hS'
        split at hS'
        · rename_i d c hgc
          cases hS'
          refine ⟨fun x => τ (x.sub g c), fun t' => ?_, fun x hx => ?_, fun k c' hk hn hc => ?_⟩
          · simp only [freezeL, freeze, hgc]
            exact h1 _
          · have : x.sub g c = x := sub_id g c x (by
              cases hx' : x.refs.contains g with
              | false => rfl
              | true => exact absurd (by simp) (hx g (by simpa using hx')))
            simp only [this]
            exact h2 x fun k hk hk' => hx k hk (by simp [hk'])
          · refine h3 k c' ?_ (fun hk' => hn (by simp [hk'])) fun j hj hj' => hc j hj (by simp [hj'])
            have hne : k ≠ g := fun e => hn (by simp [e])
            simp only [hne, if_false, hk, Option.map_some]
            congr 1
            refine sub_id g c c' ?_
            cases hx' : c'.refs.contains g with
            | false => rfl
            | true => exact absurd (by simp) (hc g (by simpa using hx'))
        · cases hS'
      · cases h
theorem callEff_frame {call : FuncId → List X → Option (X × List X)} {a : An} {S S3 : St} {dst f : Nat} {args : List X} {z : X} (h : callEff call a S dst f args = some (z, S3)) :
    ∃ τ : X → X, (∀ t', callEff call a { S with t := t' } dst f args = some (z, { t := fun v => τ (t' v), r := S3.r })) ∧ (∀ x : X, (∀ g ∈ x.refs, g ∉ reachN 8 S.r (refsL args)) → τ x = x) ∧
      (∀ k c, S.r k = some c → k ∉ reachN 8 S.r (refsL args) → (∀ g ∈ c.refs, g ∉ reachN 8 S.r (refsL args)) → S3.r k = some c) := by
  unfold callEff at h
  split at h
  · rename_i gv hgv
    split at h
    · rename_i ts hts
      split at h
      · rename_i res outs hcall
        split at h
        · rename_i tops cs hback
          split at h
          · rename_i S1 hS1
            split at h
            · rename_i r2 hr2
              split at h
              · cases h
              · rename_i hnd
                split at h
                · rename_i r3 hr3
                  simp only [Option.some.injEq, Prod.mk.injEq] at h
                  obtain ⟨rfl, rfl⟩ := h
                  obtain ⟨τ, h1, h2, h3⟩ := freezeL_frame hS1
                  have hp : ∀ g, (gaveN S.r gv.2 g && !tops.contains g) = true → g ∈ reachN 8 S.r (refsL args) := by
                    intro g hg
                    simp only [Bool.and_eq_true] at hg
                    have hg1 := hg.1
                    unfold gaveN at hg1
                    simp only [Bool.and_eq_true] at hg1
                    rcases giveL_gave _ _ _ _ hgv g with e | e
                    · rw [e] at hg1
                      cases hh : S.r g with
                      | none => rw [hh] at hg1; simp at hg1
                      | some c => rw [hh] at hg1; simp at hg1
                    · exact e.2 S.r fun _ _ h => h
                  have hl : ∀ g, g ∈ (if !a.hold && res.flat && flatL cs then [] else refsL (rdL a.md args)) → g ∈ reachN 8 S.r (refsL args) := by
                    intro g hg
                    split at hg
                    · simp at hg
                    · exact reachN_self (rdL_refs _ _ _ hg)
                  have hkid : ∀ x : X, (∀ g ∈ x.refs, g ∉ reachN 8 S.r (refsL args)) → x.kill (fun g => gaveN S.r gv.2 g && !tops.contains g) = x := by
                    intro x hx
                    refine kill_id _ x ?_
                    rw [List.any_eq_false]
                    intro g hg hpg
                    exact hx g hg (hp g hpg)
                  refine ⟨fun x => τ (x.kill (fun g => gaveN S.r gv.2 g && !tops.contains g)), fun t' => ?_, fun x hx => ?_, fun k c hk hn hc => ?_⟩
                  · unfold callEff
                    simp only [hgv, hts, hcall, hback]
                    have h4 := h1 (fun v => (t' v).kill (fun g => gaveN S.r gv.2 g && !tops.contains g))
                    simp only [dropIf] at h4 ⊢
                    rw [h4]
                    simp only [hr2, hr3]
                    rw [if_neg hnd]
                  · simp only [hkid x hx]
                    exact h2 x fun g hg hg' => hx g hg (hl g hg')
                  · have hd : (dropIf S fun g => gaveN S.r gv.2 g && !tops.contains g).r k = some c := by
                      simp only [dropIf]
                      rw [if_neg (fun hpk => hn (hp k hpk)), hk, Option.map_some, hkid c hc]
                    have h5 := h3 k c hd (fun hk' => hn (hl k hk')) fun g hg hg' => hc g hg (hl g hg')
                    have h6 := addR_sub hr2 k c h5
                    rw [← h6]
                    exact setTops_eq hr3 k fun ht => hn (reachN_self (backL_refs _ _ _ _ hback k ht))
                · cases h
            · cases h
          · cases h
        · cases h
      · cases h
    · cases h
  · cases h
/-! ### a new place ahead of a call -/
def More (g : Nat) (z : X) (r : Nat → Option X) : Nat → Option X := upd r g (some z)
theorem More.sub {g : Nat} {z : X} {r : Nat → Option X} (h : r g = none) : RSub r (More g z r) := fun k c hk => by
  unfold More upd
  by_cases e : k = g
  · subst e; rw [h] at hk; cases hk
  · simp [e, hk]
theorem more_upd {g k : Nat} {z : X} {r : Nat → Option X} {v : Option X} (h : k ≠ g) : upd (More g z r) k v = More g z (upd r k v) := upd_comm r (Ne.symm h) (some z) v
theorem more_ne {g k : Nat} {z : X} {r : Nat → Option X} (h : k ≠ g) : More g z r k = r k := by simp [More, upd, h]
theorem more_rsub {g : Nat} {z : X} {r r' : Nat → Option X} (h : RSub r r') (hg : r' g = none) : RSub (More g z r) (More g z r') := fun k c hk => by
  by_cases e : k = g
  · subst e; simpa [More, upd] using hk
  · rw [more_ne e] at hk ⊢; exact h k c hk
theorem reachN_more {g : Nat} {z : X} {r : Nat → Option X} (hz : z.refs = []) (hg : r g = none) : ∀ {n : Nat} {l : List Nat}, reachN n (More g z r) l = reachN n r l
  | 0, l => rfl
  | n + 1, l => by
    simp only [reachN]
    rw [reachN_more hz hg]
    congr 2
    refine congrFun (congrArg List.flatMap (funext fun k => ?_)) l
    by_cases e : k = g
    · subst e; simp [More, upd, hz, hg]
    · rw [more_ne e]
mutual
theorem reiX_less {g n : Nat} {z : X} {deep : (Nat → Option X) → X → Option (X × (Nat → Option X))} (hd0 : ∀ r y q, deep r y = some q → Gave n r q.2 y.refs) (hd : ∀ r y q, r g = none → g ∉ reachN n (More g z r) y.refs → deep (More g z r) y = some q → ∃ q2, deep r y = some (q.1, q2) ∧ q.2 = More g z q2 ∧ q2 g = none) :
    ∀ (x : X) (r : Nat → Option X) (q : X × (Nat → Option X)), r g = none → g ∉ reachN (n + 1) (More g z r) x.refs → reiX deep (More g z r) x = some q → ∃ q2, reiX deep r x = some (q.1, q2) ∧ q.2 = More g z q2 ∧ q2 g = none
  | .ag xs, r, q, hg, hn, h => by
    simp only [reiX] at h ⊢
    obtain ⟨p, hp, rfl⟩ := Option.map_eq_some_iff.1 h
    obtain ⟨q2, h1, h2, h3⟩ := reiL_less hd0 hd xs r p hg (by simpa only [X.refs] using hn) hp
    exact ⟨q2, by rw [h1]; rfl, h2, h3⟩
  | .hw k, r, q, hg, hn, h => by
    have hne : k ≠ g := fun e => hn (reachN_self (by simp [X.refs, e]))
    simp only [reiX, more_ne hne] at h ⊢
    split at h
    · rename_i d c hk
      cases h
      exact ⟨_, by rfl, more_upd hne, by simp [upd, Ne.symm hne, hg]⟩
    · cases h
  | .hd k lo len f, r, q, hg, hn, h => by
    have hne : k ≠ g := fun e => hn (reachN_self (by simp [X.refs, e]))
    simp only [reiX, more_ne hne] at h ⊢
    split at h
    · rename_i d c hk
      cases h
      exact ⟨_, by rfl, more_upd hne, by simp [upd, Ne.symm hne, hg]⟩
    · cases h
  | .pt k off p, r, q, hg, hn, h => by
    have hne : k ≠ g := fun e => hn (reachN_self (by simp [X.refs, e]))
    simp only [reiX, more_ne hne] at h ⊢
    split at h
    · rename_i hop
      rw [if_pos hop]
      split at h
      · rename_i y hk
        split at h
        · rename_i hs
          simp only [if_pos hs]
          obtain ⟨p', hp, rfl⟩ := Option.map_eq_some_iff.1 h
          rw [more_upd hne] at hp
          have hr0 : upd r k none g = none := by simp [upd, Ne.symm hne, hg]
          have hrs : RSub (More g z (upd r k none)) (More g z r) := more_rsub (fun j c hj => by
            unfold upd at hj
            split at hj
            · cases hj
            · exact hj) hg
          obtain ⟨q2, h1, h2, h3⟩ := hd (upd r k none) y p' hr0 (fun hin => hn (by
            simp only [reachN, List.mem_append, X.refs]
            refine .inr (reachN_mono (fun x hx => ?_) (reachN_sub hrs hin))
            simp [more_ne hne, hk, hx])) hp
          exact ⟨q2, by rw [h1]; rfl, h2, h3⟩
        · cases h
      · cases h
    · cases h
  | .b _, r, q, hg, hn, h | .i _ _, r, q, hg, hn, h | .s _, r, q, hg, hn, h | .ar _ _, r, q, hg, hn, h | .sl _ _, r, q, hg, hn, h | .np, r, q, hg, hn, h | .pf _, r, q, hg, hn, h | .nm, r, q, hg, hn, h | .nf, r, q, hg, hn, h => by
    simp only [reiX, Option.some.injEq] at h ⊢
    subst h
    exact ⟨r, rfl, rfl, hg⟩
  | .bot, r, q, _, _, h | .tup _, r, q, _, _, h | .fn _ _, r, q, _, _, h | .ow _ _, r, q, _, _, h | .ob _, r, q, _, _, h => by simp [reiX] at h
theorem reiL_less {g n : Nat} {z : X} {deep : (Nat → Option X) → X → Option (X × (Nat → Option X))} (hd0 : ∀ r y q, deep r y = some q → Gave n r q.2 y.refs) (hd : ∀ r y q, r g = none → g ∉ reachN n (More g z r) y.refs → deep (More g z r) y = some q → ∃ q2, deep r y = some (q.1, q2) ∧ q.2 = More g z q2 ∧ q2 g = none) :
    ∀ (xs : List X) (r : Nat → Option X) (q : List X × (Nat → Option X)), r g = none → g ∉ reachN (n + 1) (More g z r) (refsL xs) → reiL deep (More g z r) xs = some q → ∃ q2, reiL deep r xs = some (q.1, q2) ∧ q.2 = More g z q2 ∧ q2 g = none
  | [], r, q, hg, hn, h => by simp only [reiL, Option.some.injEq] at h ⊢; subst h; exact ⟨r, rfl, rfl, hg⟩
  | x :: xs, r, q, hg, hn, h => by
    simp only [reiL] at h ⊢
    simp only [refsL] at hn
    split at h
    · rename_i p hp
      obtain ⟨q2, h1, h2, h3⟩ := reiX_less hd0 hd x r p hg (fun hin => hn (reachN_mono (fun k hk => List.mem_append.2 (.inl hk)) hin)) hp
      obtain ⟨p', hp', rfl⟩ := Option.map_eq_some_iff.1 h
      rw [h2] at hp'
      have hs := (reiX_gave hd0 x r _ h1).sub
      obtain ⟨q3, h4, h5, h6⟩ := reiL_less hd0 hd xs q2 p' h3 (fun hin => hn (reachN_mono (fun k hk => List.mem_append.2 (.inr hk)) (reachN_sub (more_rsub hs hg) hin))) hp'
      rw [h1]
      exact ⟨q3, by simp only [h4]; rfl, h5, h6⟩
    · cases h
end
theorem rei_less {g : Nat} {z : X} : ∀ (n : Nat) (r : Nat → Option X) (y : X) (q : X × (Nat → Option X)), r g = none → g ∉ reachN n (More g z r) y.refs → rei n (More g z r) y = some q → ∃ q2, rei n r y = some (q.1, q2) ∧ q.2 = More g z q2 ∧ q2 g = none
  | 0, r, y, q, _, _, h => by simp [rei] at h
  | n + 1, r, y, q, hg, hn, h => reiX_less (rei_gave n) (rei_less n) y r q hg hn h
theorem giveL_less {g : Nat} {z : X} : ∀ (ms : List Md) (r : Nat → Option X) (xs : List X) (q : List X × (Nat → Option X)), r g = none → g ∉ reachN 8 (More g z r) (refsL xs) → giveL ms (More g z r) xs = some q → ∃ q2, giveL ms r xs = some (q.1, q2) ∧ q.2 = More g z q2 ∧ q2 g = none
  | _, r, [], q, hg, hn, h => by simp only [giveL, Option.some.injEq] at h ⊢; subst h; exact ⟨r, rfl, rfl, hg⟩
  | ms, r, x :: xs, q, hg, hn, h => by
    simp only [giveL] at h ⊢
    simp only [refsL] at hn
    split at h
    · obtain ⟨p, hp, rfl⟩ := Option.map_eq_some_iff.1 h
      obtain ⟨q2, h1, h2, h3⟩ := giveL_less ms.tail r xs p hg (fun hin => hn (reachN_mono (fun k hk => List.mem_append.2 (.inr hk)) hin)) hp
      exact ⟨q2, by rw [h1]; rfl, h2, h3⟩
    all_goals
      split at h
      · rename_i y hy
        obtain ⟨q2, h3, h4, h5⟩ := rei_less 8 r x y hg (fun hin => hn (reachN_mono (fun k hk => List.mem_append.2 (.inl hk)) hin)) hy
        obtain ⟨p, hp, rfl⟩ := Option.map_eq_some_iff.1 h
        rw [h4] at hp
        have hs := (rei_gave 8 r x _ h3).sub
        obtain ⟨q3, h1, h2, h6⟩ := giveL_less ms.tail q2 xs p h5 (fun hin => hn (reachN_mono (fun k hk => List.mem_append.2 (.inr hk)) (reachN_sub (more_rsub hs hg) hin))) hp
        rw [h3]
        exact ⟨q3, by simp only [h1]; rfl, h2, h6⟩
      · cases h
theorem giveL_rd : ∀ (ms : List Md) (r : Nat → Option X) (xs : List X) (q : List X × (Nat → Option X)), giveL ms r xs = some q → rdL ms q.1 = rdL ms xs
  | _, r, [], q, h => by simp only [giveL, Option.some.injEq] at h; subst h; rfl
  | ms, r, x :: xs, q, h => by
    simp only [giveL] at h
    split at h
    · rename_i hm
      obtain ⟨p, hp, rfl⟩ := Option.map_eq_some_iff.1 h
      simp only [rdL, hm, giveL_rd ms.tail r xs p hp]
    all_goals
      rename_i hm
      split at h
      · rename_i y hy
        obtain ⟨p, hp, rfl⟩ := Option.map_eq_some_iff.1 h
        simp only [rdL, hm, giveL_rd ms.tail y.2 xs p hp]
      · cases h
theorem lendL_less {g : Nat} {z : X} : ∀ (ms : List Md) (r : Nat → Option X) (xs ys : List X), g ∉ refsL (rdL ms xs) → lendL ms (More g z r) xs = some ys → lendL ms r xs = some ys
  | _, r, [], ys, hn, h => by simpa only [lendL] using h
  | ms, r, x :: xs, ys, hn, h => by
    simp only [rdL] at hn
    simp only [lendL] at h ⊢
    split at h
    · rename_i hm
      simp only [hm, refsL, List.mem_append, not_or] at hn
      split at h
      · rename_i y ys' hy hys
        rw [frz_sub (r' := r) (fun k hk c hc => by rw [more_ne (fun e => hn.1 (by rw [← e]; exact hk))] at hc; exact hc) hy, lendL_less ms.tail r xs ys' hn.2 hys]
        exact h
      · cases h
    all_goals
      rename_i hm
      simp only [hm] at hn
      obtain ⟨p, hp, rfl⟩ := Option.map_eq_some_iff.1 h
      rw [lendL_less ms.tail r xs p hn hp]; rfl
theorem freezeL_less {g : Nat} {z : X} (hz : z.refs = []) : ∀ {l : List Nat} {S S1 : St}, S.r g = none → g ∉ l → freezeL { S with r := More g z S.r } l = some S1 → ∃ S2 : St, freezeL S l = some S2 ∧ S1 = { S2 with r := More g z S2.r } ∧ S2.r g = none
  | [], S, S1, hg, hl, h => by simp only [freezeL, Option.some.injEq] at h ⊢; subst h; exact ⟨S, rfl, rfl, hg⟩
  | k :: l, S, S1, hg, hl, h => by
    have hne : k ≠ g := fun e => hl (by simp [e])
    have hgl : g ∉ l := fun e => hl (by simp [e])
    simp only [freezeL, more_ne hne] at h ⊢
    split at h
    · rename_i hk
      exact freezeL_less hz hg hgl h
    · rename_i c hk
      split at h
      · rename_i S' hS'
        unfold freeze at hS'
        simp only [more_ne hne] at hS'
        split at hS'
        · rename_i d c' hc
          cases hS'
          have he : freeze S k = some { t := fun v => (S.t v).sub k c', r := fun h => if h = k then none else (S.r h).map (X.sub k c') } := by
            unfold freeze
            simp only [hc]
          rw [he]
          refine freezeL_less (z := z) hz (S := { t := fun v => (S.t v).sub k c', r := fun h => if h = k then none else (S.r h).map (X.sub k c') }) (by simp [Ne.symm hne, hg]) hgl ?_
          have er : (fun j => if j = k then none else Option.map (X.sub k c') (More g z S.r j)) = More g z (fun j => if j = k then none else (S.r j).map (X.sub k c')) := by
            funext j
            unfold More upd
            by_cases e : j = g
            · subst e
              simp only [if_true]
              rw [if_neg (Ne.symm hne), Option.map_some, sub_id k c' z (by rw [hz]; rfl)]
            · simp [e]
          rw [er] at h
          exact h
        · cases hS'
      · cases h
theorem addR_less {lim g : Nat} {z : X} : ∀ {l : List (Nat × X)} {r r2 : Nat → Option X}, r g = none → addR lim (More g z r) l = some r2 → ∃ r3, addR lim r l = some r3 ∧ r2 = More g z r3 ∧ r3 g = none
  | [], r, r2, hg, h => by simp only [addR, Option.some.injEq] at h ⊢; subst h; exact ⟨r, rfl, rfl, hg⟩
  | (k, x) :: l, r, r2, hg, h => by
    simp only [addR] at h ⊢
    split at h
    · rename_i hf
      have hne : k ≠ g := by
        rintro rfl
        have := (freeN_none hf).1
        simp [More, upd] at this
      have hf' : freeN lim r k = true := by simpa [freeN, more_ne hne] using hf
      rw [hf']
      rw [more_upd hne] at h
      exact addR_less (by simp [upd, Ne.symm hne, hg]) h
    · cases h
theorem setTops_less {g : Nat} {z : X} : ∀ {tops : List Nat} {ys : List X} {r r' : Nat → Option X}, g ∉ tops → r g = none → setTops (More g z r) tops ys = some r' → ∃ r3, setTops r tops ys = some r3 ∧ r' = More g z r3 ∧ r3 g = none
  | [], ys, r, r', hn, hg, h => by simp only [setTops, Option.some.injEq] at h ⊢; subst h; exact ⟨r, rfl, rfl, hg⟩
  | k :: tops, ys, r, r', hn, hg, h => by
    have hne : k ≠ g := fun e => hn (by simp [e])
    simp only [setTops, more_ne hne] at h ⊢
    split at h
    · rename_i y ys' c hk
      split at h
      · rename_i hc
        rw [more_upd hne] at h
        simp only [if_pos hc]
        exact setTops_less (fun e => hn (by simp [e])) (by simp [upd, Ne.symm hne, hg]) h
      · cases h
    · cases h
theorem callEff_less {call : FuncId → List X → Option (X × List X)} {a : An} {S S4 : St} {dst f : Nat} {args : List X} {res : X} {g : Nat} {z : X} (hz : z.refs = []) (hg : S.r g = none) (hga : g ∉ reachN 8 (More g z S.r) (refsL args)) (h : callEff call a { S with r := More g z S.r } dst f args = some (res, S4)) :
    ∃ S3 : St, callEff call a S dst f args = some (res, S3) ∧ S4 = { S3 with r := More g z S3.r } ∧ S3.r g = none := by
  have hga1 : g ∉ refsL args := fun hin => hga (reachN_self hin)
  unfold callEff at h
  split at h
  · rename_i gv hgv
    obtain ⟨q2, g1, g2, g0⟩ := giveL_less _ _ _ _ hg hga hgv
    split at h
    · rename_i ts hts
      have g3 : lendL a.md q2 gv.1 = some ts := by
        rw [g2] at hts
        refine lendL_less _ _ _ _ (fun hin => ?_) hts
        rw [giveL_rd _ _ _ _ g1] at hin
        exact hga1 (rdL_refs _ _ _ hin)
      split at h
      · rename_i res' outs hcall
        split at h
        · rename_i tops cs hback
          have htn : g ∉ tops := fun ht => hga1 (backL_refs _ _ _ _ hback g ht)
          split at h
          · rename_i S1 hS1
            have hp : (fun k => gaveN (More g z S.r) gv.2 k && !tops.contains k) = (fun k => gaveN S.r q2 k && !tops.contains k) := by
              funext k
              congr 1
              rw [g2]
              unfold gaveN More upd
              by_cases e : k = g
              · subst e; simp [hg]
              · simp [e]
            have hdr : dropIf { S with r := More g z S.r } (fun k => gaveN S.r q2 k && !tops.contains k) = { dropIf S (fun k => gaveN S.r q2 k && !tops.contains k) with r := More g z (dropIf S (fun k => gaveN S.r q2 k && !tops.contains k)).r } := by
              unfold dropIf
              simp only [St.mk.injEq, true_and]
              funext k
              unfold More upd
              by_cases e : k = g
              · subst e
                have : gaveN S.r q2 k = false := by simp [gaveN, hg]
                simp only [this, Bool.false_and, Bool.false_eq_true, if_false, if_true, Option.map_some]
                rw [kill_id _ z (by rw [hz]; rfl)]
              · simp [e]
            have hd0 : (dropIf S (fun k => gaveN S.r q2 k && !tops.contains k)).r g = none := by
              simp only [dropIf, hg, Option.map_none]; split <;> rfl
            simp only at hS1
            rw [hp, hdr] at hS1
            obtain ⟨S2, f1, rfl, f2⟩ := freezeL_less hz hd0 (l := if !a.hold && res'.flat && flatL cs then [] else refsL (rdL a.md args)) (fun hin => by
              split at hin
              · simp at hin
              · exact hga1 (rdL_refs _ _ _ hin)) hS1
            split at h
            · rename_i r2 hr2
              obtain ⟨r3, k1, rfl, k0⟩ := addR_less f2 hr2
              split at h
              · cases h
              · rename_i hnd
                split at h
                · rename_i r4 hr4
                  obtain ⟨r5, t1, rfl, t0⟩ := setTops_less htn k0 hr4
                  simp only [Option.some.injEq, Prod.mk.injEq] at h
                  obtain ⟨rfl, rfl⟩ := h
                  refine ⟨{ S2 with r := r5 }, ?_, rfl, t0⟩
                  unfold callEff
                  simp only [g1, g3, hcall, hback, f1, k1]
                  have hnd' : ¬ (!(decide tops.Nodup && tops.all fun k => (S2.r k).isSome)) = true := by
                    simp only [Bool.not_eq_true', Bool.not_eq_false, Bool.and_eq_true, decide_eq_true_eq, List.all_eq_true] at hnd ⊢
                    refine ⟨hnd.1, fun k hk => ?_⟩
                    have := hnd.2 k hk
                    rw [more_ne (fun e => htn (by rw [← e]; exact hk))] at this
                    exact this
                  rw [if_neg hnd', t1]
                · cases h
            · cases h
          · cases h
        · cases h
      · cases h
    · cases h
  · cases h
theorem buildSlX_new {T : TT} {r : Nat → Option X} {dst t n : Nat} {ks : List Nat} {xs : List X} {x : X} {news : List (Nat × X)} (h : buildSlX T r dst t n ks xs = some (x, news, [])) :
    (refsL xs = [] ∨ (n = 0 ∧ ks = [])) ∧ ∃ c, c.refs = [] ∧ x = .hw dst ∧ news = [(dst, c)] ∧ ∀ r', buildSlX T r' dst t n ks xs = some (x, news, []) := by
  unfold buildSlX at h ⊢
  split at h
  · rename_i e hT
    split at h
    · rename_i ei hei
      by_cases h0 : n = 0 ∧ ks = []
      · simp only [if_pos h0, Option.some.injEq, Prod.mk.injEq, and_true] at h ⊢
        obtain ⟨rfl, rfl⟩ := h
        exact ⟨.inr h0, _, by simp only [X.refs], rfl, rfl, fun _ => ⟨rfl, rfl⟩⟩
      · simp only [if_neg h0] at h ⊢
        split at h
        · rename_i xs' hfz
          split at h
          · rename_i hsz
            split at h
            · rename_i ys hfill
              simp only [Option.some.injEq, Prod.mk.injEq] at h
              obtain ⟨rfl, rfl, hrf⟩ := h
              refine ⟨.inl hrf, _, by simp only [X.refs], rfl, rfl, fun r' => ?_⟩
              have := frwL_sub (r' := r') (by rw [hrf]; intro g hg; simp at hg) hfz
              simp only [this, if_pos hsz, hfill, hrf]
            · cases h
          · cases h
        · cases h
    · cases h
  · cases h
theorem qD_alloc {x : Oper} {S : St} {v : X} {n : List (Nat × X)} (hmk : mkR T x = false ∨ isAlloc T x = true) (h : qD T call an ops S x = some (v, n)) :
    n = [] ∨ ∃ d cc, x.dst = some d ∧ d < 4096 ∧ cc.refs = [] ∧ v.refs = [d] ∧ wantedX ops S x = some true ∧ n = [(d, cc)] ∧ mkR T x = true ∧ (∀ r', opq T call an r' (dstOf x) x.op (x.op.operands.toList.map S.ev) = some (v, [(d, cc)], [])) ∧
      (refsL (x.op.operands.toList.map S.ev) = [] ∨ ∀ (xs : List X) r', opq T call an r' (dstOf x) x.op xs = some (v, [(d, cc)], [])) := by
  rcases hmk with hmk | hal
  · exact .inl (qD_quiet hmk h)
  · unfold isAlloc at hal
    split at hal
    · rename_i e hxo
      split at hal
      · rename_i d ti hd hti
        simp only [Bool.and_eq_true, decide_eq_true_eq, List.isEmpty_iff] at hal
        unfold qD at h
        split at h
        · rename_i hw
          rw [hxo] at h
          simp only [opq, hti, dstOf, hd, Option.getD_some] at h
          by_cases hsz : 0 < ti.size
          · simp only [if_pos hsz, mkR, hxo, Bool.true_or, if_true, Option.some.injEq, Prod.mk.injEq] at h
            obtain ⟨rfl, rfl⟩ := h
            refine .inr ⟨d, ti.zero.wkA, hd, hal.1, hal.2, by simp only [X.refs], hw, rfl, by simp only [mkR, hxo], fun r' => ?_, .inr fun xs r' => ?_⟩ <;> simp only [hxo, opq, hti, dstOf, hd, Option.getD_some, if_pos hsz]
          · simp only [if_neg hsz, reduceCtorEq] at h
        · cases h; exact .inl rfl
        · cases h
      · cases hal
    · rename_i tt nn ps hxo
      split at hal
      · rename_i d hd
        simp only [decide_eq_true_eq] at hal
        unfold qD at h
        split at h
        · rename_i hw
          split at h
          · rename_i vx news hq
            rw [show mkR T x = true by simp only [mkR, hxo]] at h
            simp only [Bool.true_or, if_true, Option.some.injEq, Prod.mk.injEq] at h
            obtain ⟨rfl, rfl⟩ := h
            have hq' := hq
            rw [hxo] at hq'
            simp only [opq] at hq'
            obtain ⟨b0, c, b1, b2, b3, b4⟩ := buildSlX_new hq'
            have hdst : dstOf x = d := by simp [dstOf, hd]
            rw [hdst] at b2 b3 b4
            subst b3
            refine .inr ⟨d, c, hd, hal, b1, by rw [b2]; simp only [X.refs], hw, rfl, by simp only [mkR, hxo], fun r' => ?_, ?_⟩
            · rw [hxo, hdst]
              simp only [opq]
              exact b4 r'
            · rcases b0 with b0 | ⟨b0, b5⟩
              · left; rw [hxo]; exact b0
              · right
                intro xs r'
                rw [hxo, hdst]
                simp only [opq]
                have h9 := b4 r'
                unfold buildSlX at h9 ⊢
                simp only [b0, b5, and_self, if_true] at h9 ⊢
                exact h9
          · cases h
        · cases h; exact .inl rfl
        · cases h
      · cases hal
    · cases hal
theorem swap_call {x p : Oper} (hap : x.apart ops p = true) (hx : isEff an x.op = false) (hmk : mkR T x = false ∨ isAlloc T x = true) {c : Call} (hop : p.op = .call c) {fv : FuncId} (hcal : c.callee = .value (.func fv)) (hp : isEff an p.op = true) {S S1 S2 : St} (hcl : Closed S)
    (hf : wantedX ops S p = some true → ∀ g, g ∈ reachN 8 S.r (refsL (p.op.operands.toList.map S.ev)) → g ∉ refsL (x.op.operands.toList.map S.ev) ∧ (∀ d, x.dst = some d → g ∉ (S1.t d).refs) ∧ (readsR x.op = true → ∀ h ∈ refsL (x.op.operands.toList.map S.ev), ∀ cc, S.r h = some cc → g ∉ cc.refs))
    (h1 : stepD T call an ops S x = some S1) (h2 : stepD T call an ops S1 p = some S2) : ∃ S1', stepD T call an ops S p = some S1' ∧ stepD T call an ops S1' x = some S2 := by
  obtain ⟨a1, a2, a3⟩ := Oper.apart_spec hap
  unfold stepD at h1 h2
  rw [hx] at h1
  rw [hp] at h2
  simp only [Bool.false_eq_true, if_false, if_true] at h1 h2
  split at h1
  · rename_i vx nx hqx
    rcases qD_alloc hmk hqx with hnx | ⟨d, cc, hxd, hd, hzr, hvr, hwx, rfl, hmkx, hopq, hnr⟩
    rotate_left
    · -- a new place
      simp only [addR] at h1
      split at h1
      rotate_left
      · cases h1
      · rename_i r1 hr1
        split at hr1
        rotate_left
        · cases hr1
        · rename_i hfr
          cases hr1
          cases h1
          obtain ⟨hgn, hgl⟩ := freeN_none hfr
          obtain ⟨l1, l2⟩ := look_put (ops := ops) (S := S) (r' := More d cc S.r) (d := x.dst) (v := vx) (o := p) a1
          have eS1 : put { S with r := upd S.r d (some cc) } x.dst vx = put { S with r := More d cc S.r } x.dst vx := rfl
          rw [eS1] at h2 hf
          rw [l2] at h2
          have back : ∀ (t' : Nat → X) (rp : Nat → Option X) (vp : X), rp d = none → (refsL (x.op.operands.toList.map S.ev) = [] → ∀ o ∈ x.op.operands.toList, ({ t := t', r := rp } : St).ev o = S.ev o) → wantedX ops { t := t', r := rp } x = wantedX ops S x → stepD T call an ops (put { t := t', r := rp } p.dst vp) x = some (put (put { t := t', r := More d cc rp } p.dst vp) x.dst vx) := by
            intro t' rp vp hrp hev hw
            obtain ⟨m1, m2⟩ := look_put (ops := ops) (S := { t := t', r := rp }) (r' := rp) (d := p.dst) (v := vp) (o := x) (fun t ht => a3 t ht)
            have m2' : wantedX ops (put { t := t', r := rp } p.dst vp) x = wantedX ops S x := m2.trans hw
            have hqx' : qD T call an ops (put { t := t', r := rp } p.dst vp) x = some (vx, [(d, cc)]) := by
              unfold qD
              rw [m2', hwx]
              have hop' : opq T call an rp (dstOf x) x.op (x.op.operands.toList.map (put { t := t', r := rp } p.dst vp).ev) = some (vx, [(d, cc)], []) := by
                rcases hnr with hnr | hnr
                · rw [m1, List.map_congr_left (hev hnr)]; exact hopq rp
                · exact hnr _ rp
              simp only [put_r, hop', hmkx, Bool.true_or, if_true]
            unfold stepD
            rw [hx]
            simp only [Bool.false_eq_true, if_false, hqx', addR, put_r]
            rw [show freeN nlim rp d = true by simp [freeN, hrp, hgl]]
            cases p.dst <;> rfl
          split at h2
          · rename_i hw
            have hf' := hf hw
            unfold opStep at h2
            rw [if_pos hp, l1, hop] at h2
            simp only [eff, hcal] at h2
            split at h2
            · rename_i z0 S3 hst0
              cases h2
              have hsub : ∀ {g : Nat}, g ∈ refsL (((Op.call c).operands.toList.map S.ev).tail) → g ∈ refsL ((Op.call c).operands.toList.map S.ev) := by
                intro g hg
                cases hm : (Op.call c).operands.toList.map S.ev with
                | nil => rw [hm] at hg; exact hg
                | cons y0 ys => rw [hm] at hg; simp only [List.tail_cons] at hg; simp only [refsL, List.mem_append]; exact .inr hg
              have hreach : ∀ {r : Nat → Option X} {g : Nat}, g ∈ reachN 8 r (refsL (((Op.call c).operands.toList.map S.ev).tail)) → g ∈ reachN 8 r (refsL (p.op.operands.toList.map S.ev)) := by
                intro r g hg
                rw [hop]
                exact reachN_mono (fun _ h => hsub h) hg
              have htp : (put { S with r := More d cc S.r } x.dst vx).t d = vx := by rw [hxd]; simp [put, upd]
              have hdr0 : d ∉ reachN 8 S.r (refsL (((Op.call c).operands.toList.map S.ev).tail)) := fun hin => by
                have := (hf' d (hreach hin)).2.1 d hxd
                rw [htp] at this
                exact this (by simp [hvr])
              have hdr : d ∉ reachN 8 (More d cc S.r) (refsL (((Op.call c).operands.toList.map S.ev).tail)) := by
                rw [reachN_more hzr hgn]; exact hdr0
              have e0 : callEff call (an fv) { (put { S with r := S.r } x.dst vx) with r := More d cc S.r } (dstOf p) fv (((Op.call c).operands.toList.map S.ev).tail) = some (z0, S3) := by
                rw [hxd] at hst0 ⊢
                exact hst0
              obtain ⟨S5, m1, rfl, m3⟩ := callEff_less (S := put { S with r := S.r } x.dst vx) hzr (by rw [put_r]; exact hgn) (by rw [put_r]; exact hdr) (by rw [put_r]; exact e0)
              obtain ⟨τ, q1, q2, q3⟩ := callEff_frame m1
              rw [put_r] at q1 q2 q3
              have hstep1 : stepD T call an ops S p = some (put { t := fun v => τ (S.t v), r := S5.r } p.dst z0) := by
                unfold stepD
                rw [hp]
                simp only [if_true, hw]
                unfold opStep
                rw [if_pos hp, hop]
                simp only [eff, hcal]
                have h6 : callEff call (an fv) S (dstOf p) fv (((Op.call c).operands.toList.map S.ev).tail) = some (z0, { t := fun v => τ (S.t v), r := S5.r }) := by
                  exact q1 S.t
                rw [h6]
              refine ⟨_, hstep1, ?_⟩
              have hwx2 : wantedX ops { t := fun v => τ (S.t v), r := S5.r } x = wantedX ops S x := by
                rw [hwx]
                have hb := hwx
                unfold wantedX at hb ⊢
                cases hg : x.guard with
                | none => rfl
                | some jw =>
                  obtain ⟨j, want⟩ := jw
                  rw [hg] at hb
                  simp only at hb ⊢
                  cases hj : (ops[j]?).bind (·.dst) with
                  | none => rw [hj] at hb; cases hb
                  | some e =>
                    rw [hj] at hb
                    simp only at hb ⊢
                    have : τ (S.t e) = S.t e := by
                      refine q2 _ fun k hk => ?_
                      exfalso
                      split at hb
                      · rename_i hh; rw [hh] at hk; simp [X.refs] at hk
                      · rename_i hh; rw [hh] at hk; simp [X.refs, refsL] at hk
                      · cases hb
                    rw [this]
                    exact hb
              have hev2 : refsL (x.op.operands.toList.map S.ev) = [] → ∀ o ∈ x.op.operands.toList, ({ t := fun v => τ (S.t v), r := S5.r } : St).ev o = S.ev o := by
                intro hnil o ho
                have hone : ∀ l : List Operand, refsL (l.map S.ev) = [] → o ∈ l → (S.ev o).refs = [] := by
                  intro l
                  induction l with
                  | nil => intro _ h; cases h
                  | cons y l ih =>
                    intro h1 h2
                    simp only [List.map_cons, refsL, List.append_eq_nil_iff] at h1
                    rcases List.mem_cons.1 h2 with rfl | h2
                    · exact h1.1
                    · exact ih h1.2 h2
                have hz := hone _ hnil ho
                cases o with
                | tmp t =>
                  show τ (S.t t) = S.t t
                  exact q2 _ fun k hk => by
                    have hz' : (S.t t).refs = [] := hz
                    rw [hz'] at hk; cases hk
                | const c => rfl
                | global g => rfl
                | func f => rfl
              rw [back (fun v => τ (S.t v)) S5.r z0 m3 hev2 hwx2]
              congr 1
              have hS5 : S5 = { t := fun v => τ ((put S x.dst vx).t v), r := S5.r } := by
                have h7 := q1 (put S x.dst vx).t
                have h8 : callEff call (an fv) (put S x.dst vx) (dstOf p) fv (((Op.call c).operands.toList.map S.ev).tail) = some (z0, { t := fun v => τ ((put S x.dst vx).t v), r := S5.r }) := by
                  rw [hxd] at h7 ⊢
                  exact h7
                rw [m1] at h8
                simp only [Option.some.injEq, Prod.mk.injEq, true_and] at h8
                exact h8
              have hτ : τ vx = vx := q2 _ fun k hk hk' => by
                rw [hvr, List.mem_singleton] at hk
                subst hk
                exact hdr0 hk'
              rw [put_comm (fun k hk => fun e => a2 k e hk)]
              congr 1
              rw [hS5]
              rw [hxd]
              simp only [put, St.mk.injEq, and_true]
              funext v
              simp only [upd]
              split
              · exact hτ.symm
              · rfl
            · cases h2
          · rename_i hw
            cases h2
            refine ⟨put S p.dst (.tup []), ?_, ?_⟩
            · unfold stepD
              rw [hp]
              simp only [if_true, hw]
            · have := back S.t S.r (.tup []) hgn (fun _ _ _ => rfl) rfl
              have e1 : (put { t := S.t, r := S.r } p.dst (.tup [])) = put S p.dst (.tup []) := rfl
              rw [e1] at this
              rw [this]
              congr 1
              exact put_comm (fun k hk => fun e => a2 k e hk)
          · cases h2
    subst hnx
    simp only [addR, Option.some.injEq] at h1
    subst h1
    have hSr : ({ S with r := S.r } : St) = S := rfl
    rw [hSr] at h2 hf
    obtain ⟨l1, l2⟩ := look_put (ops := ops) (S := S) (r' := S.r) (d := x.dst) (v := vx) (o := p) a1
    rw [hSr] at l1 l2
    rw [l2] at h2
    have back : ∀ (t' : Nat → X) (rp : Nat → Option X) (vp : X), (∀ o ∈ x.op.operands.toList, ({ t := t', r := rp } : St).ev o = S.ev o) → wantedX ops { t := t', r := rp } x = wantedX ops S x → (∀ q, opq T call an S.r (dstOf x) x.op (x.op.operands.toList.map S.ev) = some q → opq T call an rp (dstOf x) x.op (x.op.operands.toList.map S.ev) = some q) →
        stepD T call an ops (put { t := t', r := rp } p.dst vp) x = some (put (put { t := t', r := rp } p.dst vp) x.dst vx) := by
      intro t' rp vp he hw ho
      obtain ⟨m1, m2⟩ := look_put (ops := ops) (S := { t := t', r := rp }) (r' := rp) (d := p.dst) (v := vp) (o := x) (fun t ht => a3 t ht)
      have m1' : x.op.operands.toList.map (put { t := t', r := rp } p.dst vp).ev = x.op.operands.toList.map S.ev := by
        rw [m1]; exact List.map_congr_left he
      have m2' : wantedX ops (put { t := t', r := rp } p.dst vp) x = wantedX ops S x := m2.trans hw
      have hqx' : qD T call an ops (put { t := t', r := rp } p.dst vp) x = some (vx, []) := by
        unfold qD at hqx ⊢
        rw [m2', m1', put_r]
        split at hqx
        · rename_i hw
          (try rw [hw])
          split at hqx
          · rename_i z news hz
            rw [ho _ hz]
            exact hqx
          · cases hqx
        · rename_i hw; first | exact hqx | (rw [hw]; exact hqx)
        · cases hqx
      unfold stepD
      rw [hx]
      simp only [Bool.false_eq_true, if_false, hqx', addR]
    split at h2
    · rename_i hw
      have hf' := hf hw
      unfold opStep at h2
      rw [if_pos hp, l1, hop] at h2
      simp only [eff, hcal] at h2
      split at h2
      · rename_i z0 S3 hst0
        cases h2
        obtain ⟨τ, q1, q2, q3⟩ := callEff_frame hst0
        rw [put_r] at q2 q3
        have hsub : ∀ {g : Nat}, g ∈ reachN 8 S.r (refsL ((p.op.operands.toList.map S.ev).tail)) → g ∈ reachN 8 S.r (refsL (p.op.operands.toList.map S.ev)) := by
          intro g hg
          refine reachN_mono (fun y hy => ?_) hg
          cases hm : p.op.operands.toList.map S.ev with
          | nil => rw [hm] at hy; exact hy
          | cons y0 ys => rw [hm] at hy; simp only [List.tail_cons] at hy; simp only [refsL, List.mem_append]; exact .inr hy
        rw [hop] at hsub
        have hkq : ∀ k, k ∈ reachN 8 S.r (refsL (((Op.call c).operands.toList.map S.ev).tail)) → k ∉ refsL (x.op.operands.toList.map S.ev) ∧ (∀ d, x.dst = some d → k ∉ ((put S x.dst vx).t d).refs) ∧ (readsR x.op = true → ∀ h ∈ refsL (x.op.operands.toList.map S.ev), ∀ cc, S.r h = some cc → k ∉ cc.refs) := by
          intro k hk
          refine hf' k ?_
          rw [hop]
          exact hsub hk
        have hstep1 : stepD T call an ops S p = some (put { t := fun v => τ (S.t v), r := S3.r } p.dst z0) := by
          unfold stepD
          rw [hp]
          simp only [if_true, hw]
          unfold opStep
          rw [if_pos hp, hop]
          simp only [eff, hcal]
          have h5 := q1 S.t
          rw [put_r] at h5
          have h6 : callEff call (an fv) S (dstOf p) fv (((Op.call c).operands.toList.map S.ev).tail) = some (z0, { t := fun v => τ (S.t v), r := S3.r }) := h5
          rw [h6]
        have b1 : ∀ o ∈ x.op.operands.toList, ({ t := fun v => τ (S.t v), r := S3.r } : St).ev o = S.ev o := by
          intro o ho
          cases o with
          | tmp t =>
            show τ (S.t t) = S.t t
            refine q2 _ fun k hk hk' => (hkq k hk').1 ?_
            have : ∀ (l : List Operand), Operand.tmp t ∈ l → k ∈ refsL (l.map S.ev) := by
              intro l
              induction l with
              | nil => intro h; simp at h
              | cons a l ih =>
                intro h
                simp only [List.map_cons, refsL, List.mem_append]
                rcases List.mem_cons.1 h with rfl | h
                · exact .inl hk
                · exact .inr (ih h)
            exact this _ ho
          | const v => rfl
          | global g => rfl
          | func f => rfl
        have hwx : ∃ b, wantedX ops S x = some b := by
          unfold qD at hqx
          split at hqx
          · rename_i hh; exact ⟨_, hh⟩
          · rename_i hh; exact ⟨_, hh⟩
          · cases hqx
        have b2 : wantedX ops { t := fun v => τ (S.t v), r := S3.r } x = wantedX ops S x := by
          obtain ⟨b, hb⟩ := hwx
          unfold wantedX at hb ⊢
          cases hg : x.guard with
          | none => rfl
          | some jw =>
            obtain ⟨j, want⟩ := jw
            rw [hg] at hb
            simp only at hb ⊢
            cases hj : (ops[j]?).bind (·.dst) with
            | none => rfl
            | some e =>
              rw [hj] at hb
              simp only at hb ⊢
              have : τ (S.t e) = S.t e := by
                refine q2 _ fun k hk => ?_
                exfalso
                split at hb
                · rename_i hh; rw [hh] at hk; simp [X.refs] at hk
                · rename_i hh; rw [hh] at hk; simp [X.refs, refsL] at hk
                · cases hb
              rw [this]
        have b3 : ∀ w, opq T call an S.r (dstOf x) x.op (x.op.operands.toList.map S.ev) = some w → opq T call an S3.r (dstOf x) x.op (x.op.operands.toList.map S.ev) = some w := by
          intro w hw'
          cases hrd : readsR x.op with
          | false => rw [← opq_nr (r := S.r) hrd]; exact hw'
          | true =>
            refine opq_sub (fun k hk ck hck => ?_) hw'
            exact q3 k ck hck (fun hk' => (hkq k hk').1 hk) fun g hg hg' => (hkq g hg').2.2 hrd k hk ck hck hg
        refine ⟨_, hstep1, ?_⟩
        rw [back (fun v => τ (S.t v)) _ z0 b1 b2 b3]
        congr 1
        rw [put_comm (fun k hk => fun e => a2 k e hk)]
        have hS3 : S3 = { t := fun v => τ ((put S x.dst vx).t v), r := S3.r } := by
          have h7 := q1 (put S x.dst vx).t
          have h8 : callEff call (an fv) (put S x.dst vx) (dstOf p) fv (((Op.call c).operands.toList.map S.ev).tail) = some (z0, { t := fun v => τ ((put S x.dst vx).t v), r := S3.r }) := h7
          rw [hst0] at h8
          simp only [Option.some.injEq, Prod.mk.injEq, true_and] at h8
          exact h8
        have et : (fun v => τ ((put S x.dst vx).t v)) = (put { t := fun v => τ (S.t v), r := S.r } x.dst vx).t := by
          funext v
          cases hxd : x.dst with
          | none => rfl
          | some d =>
            simp only [put, upd]
            split
            · rename_i e
              refine q2 vx fun k hk hk' => ?_
              have h7 := (hkq k hk').2.1 d hxd
              rw [hxd] at h7
              simp only [put, upd, if_pos] at h7
              exact h7 hk
            · rfl
        rw [hS3, et]
        cases x.dst <;> rfl
      · cases h2
    · rename_i hw
      cases h2
      refine ⟨put S p.dst (.tup []), ?_, ?_⟩
      · unfold stepD
        rw [hp]
        simp only [if_true, hw]
      · have := back S.t S.r (.tup []) (fun _ _ => rfl) rfl (fun q hq => hq)
        have e1 : (put { t := S.t, r := S.r } p.dst (.tup [])) = put S p.dst (.tup []) := rfl
        rw [e1] at this
        rw [this]
        congr 1
        exact put_comm (fun k hk => fun e => a2 k e hk)
    · cases h2
  · cases h1

def overB (ops : Array Oper) (x y : Nat) : Bool :=
  match ops[x]?, ops[y]? with
  | some ox, some oy => (match oy.dst with
    | some d => !(ox.looksAt ops).contains d
    | none => true) && (x == y || (match ox.dst, oy.dst with
      | some a, some b => a != b
      | _, _ => true))
  | _, _ => true
/-- Where the i-th operation stands behind those of pre. -/
def pairsB (ops : Array Oper) (dep : List (List Nat)) (i : Nat) : List Nat → Bool
  | [] => true
  | x :: l => ((dep.getD i []).contains x || (x :: l).all fun y => (dep.getD i []).contains y || overB ops x y) && pairsB ops dep i l
def depOk (T : TT) (an : FuncId → An) (ops : Array Oper) (dep : List (List Nat)) (pre : List Nat) (i : Nat) : Bool :=
  match ops[i]? with
  | some o => (direct o).all (fun j => pre.contains j) && (dep.getD i []).all (fun j => (direct o).contains j || (direct o).any fun m => (dep.getD m []).contains j) &&
      (pre.all fun x => (dep.getD i []).contains x || (match ops[x]? with | some ox => swapOk T an ops ox o && !dirs o x | none => false)) &&
      (!isLoose an o.op || pairsB ops dep i pre) && (!isEff an o.op || (upO ops o).all fun j => (dep.getD i []).contains j)
  | none => false
def ordChk (T : TT) (an : FuncId → An) (ops : Array Oper) (dep : List (List Nat)) : List Nat → List Nat → Bool
  | _, [] => true
  | pre, i :: l => depOk T an ops dep pre i && !pre.contains i && decide (i < ops.size) && ordChk T an ops dep (pre ++ [i]) l
theorem sameDst_comm (x y : Oper) : sameDst x y = sameDst y x := by
  unfold sameDst
  cases x.dst <;> cases y.dst <;> simp
  rw [Bool.eq_iff_iff]; simp; exact eq_comm
theorem distD_spec : ∀ {l : List Oper}, distD l = true → ∀ (a b : Nat) x y, l[a]? = some x → l[b]? = some y → a ≠ b → sameDst x y = false
  | [], _, a, b, x, y, hx, _, _ => by simp at hx
  | o :: l, h, a, b, x, y, hx, hy, hne => by
    simp only [distD, Bool.and_eq_true, List.all_eq_true, Bool.not_eq_true'] at h
    cases a with
    | zero =>
      cases b with
      | zero => exact absurd rfl hne
      | succ b =>
        simp at hx hy
        subst hx
        exact h.1 y (List.mem_of_getElem? hy)
    | succ a =>
      cases b with
      | zero =>
        simp at hx hy
        subst hy
        rw [sameDst_comm]
        exact h.1 x (List.mem_of_getElem? hx)
      | succ b =>
        simp at hx hy
        exact distD_spec h.2 a b x y hx hy (fun e => hne (by rw [e]))
def drawChk (T : TT) (an : FuncId → An) (ops : Array Oper) : Bool := ((List.range ops.size).all fun i => (ordOf an ops).contains i) && ordChk T an ops (clos ops.toList []) [] (ordOf an ops)
def Over (ops : Array Oper) (x y : Oper) : Prop := ∀ d, y.dst = some d → d ∉ x.looksAt ops
/-- .. and they write different slots. -/
def Over2 (ops : Array Oper) (x y : Oper) : Prop := Over ops x y ∧ ∀ d, x.dst = some d → y.dst ≠ some d
theorem stepD_t {x : Oper} (hx : isEff an x.op = false) {S S1 : St} (h : stepD T call an ops S x = some S1) : ∀ u, x.dst ≠ some u → S1.t u = S.t u := by
  unfold stepD at h
  rw [hx] at h
  simp only [Bool.false_eq_true, if_false] at h
  split at h
  · split at h
    · cases h
      intro u hu
      cases hd : x.dst with
      | none => rfl
      | some d =>
        have : u ≠ d := fun e => hu (by rw [hd, e])
        simp [put, upd, this]
    · cases h
  · cases h
theorem ev_of_t {S S' : St} {o : Oper} (h : ∀ u ∈ o.looksAt ops, S'.t u = S.t u) : (∀ x ∈ o.op.operands.toList, S'.ev x = S.ev x) ∧ wantedX ops S' o = wantedX ops S o := by
  constructor
  · intro x hx
    cases x with
    | tmp t => exact h t (operand_looks hx)
    | const c => rfl
    | global g => rfl
    | func f => rfl
  · unfold wantedX
    cases hg : o.guard with
    | none => rfl
    | some jw =>
      obtain ⟨j, want⟩ := jw
      simp only
      cases hj : (ops[j]?).bind (·.dst) with
      | none => rfl
      | some e =>
        simp only
        have hl : e ∈ o.looksAt ops := by
          unfold Oper.looksAt
          refine List.mem_append.2 (.inr ?_)
          rw [hg]; simp [hj]
        rw [h e hl]
theorem bubble {Lv : St → Prop} (hL1 : ∀ S, Lv S → Closed S) (hL2 : ∀ S S1 x, x ∈ ops.toList → Lv S → stepD T call an ops S x = some S1 → Lv S1) {i : Oper} {l2 : List Oper} {S' : St} : ∀ {l1 : List Oper} {S : St}, (∀ x ∈ l1, swapOk T an ops x i = true ∧ x ∈ ops.toList ∧ ∃ j, ops[j]? = some x ∧ dirs i j = false ∧ (isEff an i.op = true → (upO ops i).contains j = false)) →
    (isLoose an i.op = true → (∀ x ∈ l1, Over ops x x) ∧ l1.Pairwise (Over2 ops)) → (distD ops.toList = true → ∀ x ∈ l1, ∀ y ∈ l2, sameDst x y = false) → Lv S → runD T call an ops (l1 ++ i :: l2) S = some S' →
    ∃ Se S1, chkS an ops l2 Se i = true ∧ (∀ u, (∀ x ∈ l1, x.dst ≠ some u) → Se.t u = S.t u) ∧ (∀ g c, S.r g = some c → Se.r g = some c) ∧ stepD T call an ops S i = some S1 ∧ runD T call an ops (l1 ++ l2) S1 = some S'
  | [], S, _, _, _, _, h => by
    simp only [List.nil_append, runD] at h
    split at h
    · rename_i hchk
      split at h
      · rename_i S1 h1; exact ⟨S, S1, hchk, fun _ _ => rfl, fun _ _ h => h, h1, h⟩
      · cases h
    · cases h
  | x :: l1, S, hs, hov, hdst, hlv, h => by
    simp only [List.cons_append, runD] at h
    split at h
    · rename_i hchk
      split at h
      · rename_i Sx hx
        obtain ⟨hsw, hxm, jx, hjx, hdx, hux⟩ := hs x (by simp)
        obtain ⟨Se, S2, hc, ht, hr, h2, h3⟩ := bubble hL1 hL2 (fun y hy => hs y (by simp [hy])) (fun hst => ⟨fun y hy => (hov hst).1 y (by simp [hy]), (List.pairwise_cons.1 (hov hst).2).2⟩) (fun h1 y hy => hdst h1 y (by simp [hy])) (hL2 S Sx x hxm hlv hx) h
        simp only [swapOk, Bool.and_eq_true, Bool.not_eq_true', Bool.or_eq_true] at hsw
        obtain ⟨⟨hap, hxe⟩, hpe0⟩ := hsw
        have hpe : isEff an i.op = false ∨ isStore i.op = true ∨ (isApp i.op = true ∨ isCallF i.op = true) ∧ (mkR T x = false ∨ (isCallF i.op = true ∧ isAlloc T x = true)) := by
          rcases hpe0 with ((h | h) | h) | h
          · exact .inl h
          · exact .inr (.inl h)
          · exact .inr (.inr ⟨h.1, .inl h.2⟩)
          · exact .inr (.inr ⟨.inr h.1, .inr h⟩)
        obtain ⟨a1, a2, a3⟩ := Oper.apart_spec hap
        have hxt := stepD_t hxe hx
        have hxr : ∀ g c, S.r g = some c → Sx.r g = some c := by
          intro g c hg
          unfold stepD at hx
          rw [hxe] at hx
          simp only [Bool.false_eq_true, if_false] at hx
          split at hx
          · split at hx
            · rename_i r1 hr1
              cases hx
              rw [put_r]
              exact addR_sub hr1 g c hg
            · cases hx
          · cases hx
        have key : ∃ S1, stepD T call an ops S i = some S1 ∧ stepD T call an ops S1 x = some S2 := by
          cases hie : isEff an i.op with
          | false => exact swap_quiet hap hxe hie (hL1 S hlv) hx h2
          | true =>
            have hlo : isLoose an i.op = true := by
              rw [hie] at hpe
              simp only [Bool.true_eq_false, false_or] at hpe
              unfold isLoose
              rcases hpe with hpe | hpe
              · simp [hpe]
              · rcases hpe.1 with h | h
                · simp [h]
                · simp [h, hie]
            obtain ⟨o1, o2⟩ := hov hlo
            have hnotin : ∀ w ∈ i.looksAt ops, ∀ x' ∈ x :: l1, x'.dst ≠ some w := by
              intro w hw x' hx' hd
              have hsw' := (hs x' hx').1
              simp only [swapOk, Bool.and_eq_true] at hsw'
              exact (Oper.apart_spec hsw'.1.1).1 w hd hw
            have hiS : ∀ u ∈ i.looksAt ops, Se.t u = S.t u := fun u hu => (ht u fun x' hx' => hnotin u hu x' (by simp [hx'])).trans (hxt u (hnotin u hu x (by simp)))
            have hxS : ∀ u ∈ x.looksAt ops, Se.t u = S.t u := fun u hu => (ht u fun x' hx' hd => ((List.pairwise_cons.1 o2).1 x' hx').1 u hd hu).trans (hxt u fun hd => o1 x (by simp) u hd hu)
            obtain ⟨i1, i2⟩ := ev_of_t (o := i) hiS
            obtain ⟨x1, _⟩ := ev_of_t (o := x) hxS
            have hjl := (Array.getElem?_eq_some_iff.1 hjx).1
            have hnl : (distD ops.toList && l2.any (sameDst x)) = false := by
              cases hds : distD ops.toList with
              | false => rfl
              | true =>
                rw [Bool.true_and, List.any_eq_false]
                intro y hy
                rw [hdst hds x (by simp) y hy]; simp
            cases hst : isStore i.op with
            | true =>
              cases hop : i.op <;> rw [hop] at hst <;> simp only [isStore, Bool.false_eq_true] at hst
              rename_i t y z
              refine swap_store hap hxe hop (hL1 S hlv) (fun hw => ?_) hx h2
              unfold chkS at hc
              rw [hop] at hc
              simp only [i2, hw] at hc
              have ey : Se.ev y = S.ev y := i1 y (by rw [hop]; simp [Op.operands])
              have ez : Se.ev z = S.ev z := i1 z (by rw [hop]; simp [Op.operands])
              rw [ey, ez] at hc
              split at hc
              · rename_i g off path hy
                simp only [Bool.and_eq_true] at hc
                obtain ⟨hc1, hc2⟩ := hc
                split at hc1
                · rename_i c hgc
                  have hgn : S.r g ≠ none := (hL1 S hlv).ev y g (by rw [hy]; simp [X.refs])
                  have hgS : Sx.r g = some c := by
                    cases hgs : S.r g with
                    | none => exact absurd hgs hgn
                    | some c0 =>
                      have h1 := hxr g c0 hgs
                      have h2 := hr g c0 h1
                      rw [hgc] at h2; cases h2; exact h1
                  refine ⟨g, off, path, c, hy, hgS, ?_, fun hrd hg => ?_⟩
                  · simp only [Bool.or_eq_true, Bool.not_eq_true', List.isEmpty_iff] at hc1
                    exact hc1
                  · have h7 := List.all_eq_true.1 hc2 jx (by simpa using hjl)
                    rw [hjx] at h7
                    simp only [hrd, hux hie, hnl, Bool.not_true, Bool.false_or, Bool.or_false, Bool.not_eq_true', List.contains_eq_mem, decide_eq_false_iff_not] at h7
                    exact h7 (by rw [List.map_congr_left x1]; exact hg)
                · cases hc1
              · cases hc
            | false =>
              rw [hie, hst] at hpe
              simp only [Bool.true_eq_false, Bool.false_eq_true, false_or] at hpe
              obtain ⟨hia0, hmk⟩ := hpe
              have hmap : i.op.operands.toList.map Se.ev = i.op.operands.toList.map S.ev := List.map_congr_left i1
              have hclear : ∀ g, clearX Se g x = true → g ∉ refsL (x.op.operands.toList.map S.ev) ∧ (∀ d, x.dst = some d → g ∉ (Sx.t d).refs) ∧ (readsR x.op = true → ∀ h ∈ refsL (x.op.operands.toList.map S.ev), ∀ cc, S.r h = some cc → g ∉ cc.refs) := by
                intro g hcx
                unfold clearX at hcx
                rw [List.map_congr_left x1] at hcx
                simp only [Bool.and_eq_true, Bool.not_eq_true', Bool.or_eq_true, List.contains_eq_mem, decide_eq_false_iff_not] at hcx
                obtain ⟨⟨c1, c2⟩, c3⟩ := hcx
                refine ⟨c1, fun d hd => ?_, fun hrd k hk cc hcc => ?_⟩
                · rw [hd] at c2
                  simp only [Bool.not_eq_true', List.contains_eq_mem, decide_eq_false_iff_not] at c2
                  have hds : Se.t d = Sx.t d := ht d fun x' hx' hd' => ((List.pairwise_cons.1 o2).1 x' hx').2 d hd hd'
                  rw [← hds]; exact c2
                · rcases c3 with c3 | c3
                  · rw [hrd] at c3; cases c3
                  · have h8 := List.all_eq_true.1 c3 k hk
                    rw [hr k cc (hxr k cc hcc)] at h8
                    simpa using h8
              have hpick : ∀ g, chkA ops l2 Se i g = true → clearX Se g x = true := by
                intro g hall
                have h7 := List.all_eq_true.1 hall jx (by simpa using hjl)
                rw [hjx] at h7
                simp only [hux hie, hnl, Bool.false_or, Bool.or_false, Bool.or_eq_true] at h7
                rcases h7 with h7 | h7
                · exfalso
                  unfold sameDst at h7
                  split at h7
                  · rename_i a b ha hb
                    simp only [beq_iff_eq] at h7
                    exact a2 a ha (by rw [hb, h7])
                  · cases h7
                · exact h7
              rcases hia0 with hia | hia
              rotate_left
              · unfold isCallF at hia
                split at hia
                · rename_i c hop
                  split at hia
                  · rename_i fv hcal
                    refine swap_call hap hxe (hmk.imp id And.right) hop hcal hie (hL1 S hlv) (fun hw g hg => ?_) hx h2
                    refine hclear g (hpick g ?_)
                    unfold chkS at hc
                    have hie' := hie
                    rw [hop] at hc hie'
                    simp only [hcal, i2, hw, hie', if_true] at hc
                    rw [← hop, hmap] at hc
                    refine List.all_eq_true.1 hc g (reachN_sub (fun h ch hch => hr h ch (hxr h ch hch)) hg)
                  · cases hia
                · cases hia
              unfold isApp at hia
              split at hia
              · rename_i c hop
                split at hia
                · rename_i hcal
                  have hmk : mkR T x = false := hmk.resolve_right (fun h => by
                    have h1 := h.1
                    rw [hop] at h1
                    simp [isCallF, hcal] at h1)
                  refine swap_app hap hxe hmk hop hcal (hL1 S hlv) (fun hw g hg => ?_) hx h2
                  refine hclear g (hpick g ?_)
                  unfold chkS at hc
                  rw [hop] at hc
                  simp only [hcal, i2, hw] at hc
                  rw [← hop, hmap] at hc
                  rcases hg with hg | ⟨lo, len, f, hg⟩
                  · rw [hg] at hc; exact hc
                  · rw [hg] at hc; exact hc
                · cases hia
              · cases hia
        obtain ⟨S1, k1, k2⟩ := key
        refine ⟨Se, S1, hc, fun u hu => (ht u fun x' hx' => hu x' (by simp [hx'])).trans (hxt u (hu x (by simp))), fun g c hg => hr g c (hxr g c hg), k1, ?_⟩
        have hcx : chkS an ops (l1 ++ l2) S1 x = true := by
          unfold chkS
          cases hxo : x.op <;> simp only
          · rw [hxo] at hxe
            simp [isEff] at hxe
          · rename_i c
            cases hcal : c.callee with
            | builtin b =>
              cases b <;> simp only
              rw [hxo] at hxe
              simp [isEff, hcal] at hxe
            | value v =>
              cases v with
              | func f =>
                rw [hxo] at hxe
                simp only [hxe, Bool.false_eq_true, if_false]
              | _ => rfl
            | _ => rfl
        simp only [List.cons_append, runD, hcx, if_true, k2]
        exact h3
      · cases h
    · cases h
/-- What is left. -/
def left (ord : List Nat) (L : Array Bool) : List Nat := ord.filter fun i => !L.getD i true
theorem left_set {n i : Nat} {ord : List Nat} {L : Array Bool} (hL : L.size = n) (hi : i < n) : left ord (L.setIfInBounds i true) = (left ord L).filter (· != i) := by
  unfold left
  rw [List.filter_filter]
  refine List.filter_congr fun j hj => ?_
  by_cases e : j = i
  · subst e; simp [Array.getD_eq_getD_getElem?, hL, hi]
  · have : (L.setIfInBounds i true).getD j true = L.getD j true := by simp [Array.getD_eq_getD_getElem?, Array.getElem?_setIfInBounds, Ne.symm e]
    rw [this]; simp [e]
theorem filter_split {f : Nat → Bool} {i : Nat} : ∀ {l l1 l2 : List Nat}, l.filter f = l1 ++ i :: l2 → ∃ p q, l = p ++ i :: q ∧ p.filter f = l1 ∧ q.filter f = l2
  | [], l1, l2, h => by simp at h
  | a :: l, l1, l2, h => by
    rw [List.filter_cons] at h
    split at h
    · cases l1 with
      | nil =>
        simp only [List.nil_append, List.cons.injEq] at h
        obtain ⟨rfl, h⟩ := h
        exact ⟨[], l, rfl, rfl, h⟩
      | cons b l1 =>
        simp only [List.cons_append, List.cons.injEq] at h
        obtain ⟨rfl, h⟩ := h
        obtain ⟨p, q, rfl, h1, h2⟩ := filter_split h
        rename_i ha
        exact ⟨a :: p, q, rfl, by rw [List.filter_cons, if_pos ha, h1], h2⟩
    · rename_i ha
      obtain ⟨p, q, rfl, h1, h2⟩ := filter_split h
      exact ⟨a :: p, q, rfl, by rw [List.filter_cons, if_neg ha, h1], h2⟩
theorem filter_ne {i : Nat} : ∀ {l1 l2 : List Nat}, (l1 ++ i :: l2).Nodup → (l1 ++ i :: l2).filter (· != i) = l1 ++ l2 := by
  intro l1 l2 h
  have h1 : i ∉ l1 := fun hm => (List.nodup_append.1 h).2.2 i hm i (by simp) rfl
  have h2 : i ∉ l2 := (List.nodup_cons.1 (List.nodup_append.1 h).2.1).1
  rw [List.filter_append, List.filter_cons]
  simp only [bne_self_eq_false, Bool.false_eq_true, if_false]
  rw [List.filter_eq_self.2 (fun a ha => by simp; intro e; subst e; exact h1 ha), List.filter_eq_self.2 (fun a ha => by simp; intro e; subst e; exact h2 ha)]
end
section
variable {P : Program} {T : TT} {w0 : World} {F0 : Nat → Prop} {Pb : PB} {N : Nat} {call : FuncId → List X → Option (X × List X)} {an : FuncId → An} {ops : Array Oper} {Q : Exit → Act → World → Prop} {S' : St}
mutual
theorem rc_refs {F : Nat → Prop} {A : Nat → Option RA} {w : World} : ∀ {x : X} {cs : List Value}, Rc w F A x cs → ∀ g ∈ x.refs, ∃ ra, A g = some ra
  | .ag xs, cs, h, g, hg => by simp only [Rc] at h; exact rcL_refs h g (by simpa only [X.refs] using hg)
  | .hw k, cs, h, g, hg => by simp only [Rc] at h; obtain ⟨ra, a, c, hA, _⟩ := h; simp [X.refs] at hg; subst hg; exact ⟨ra, hA⟩
  | .hd k lo len f, cs, h, g, hg => by simp only [Rc] at h; obtain ⟨ra, a, c, hA, _⟩ := h; simp [X.refs] at hg; subst hg; exact ⟨ra, hA⟩
  | .pt k o p, cs, h, g, hg => by simp only [Rc] at h; obtain ⟨ra, hA, _⟩ := h; simp [X.refs] at hg; subst hg; exact ⟨ra, hA⟩
  | .fn f cap, cs, h, g, hg => by simp only [Rc] at h; obtain ⟨c, h1, _⟩ := h; exact rcL_refs h1 g (by simpa only [X.refs] using hg)
  | .tup xs, cs, h, g, hg => by simp [Rc] at h
  | .b v, cs, h, g, hg | .i k n, cs, h, g, hg | .s l, cs, h, g, hg | .ar d xs, cs, h, g, hg | .sl f xs, cs, h, g, hg | .np, cs, h, g, hg | .pf x, cs, h, g, hg | .nm, cs, h, g, hg | .nf, cs, h, g, hg | .bot, cs, h, g, hg | .ow _ _, cs, h, g, hg | .ob _, cs, h, g, hg => by simp [X.refs] at hg
theorem rcL_refs {F : Nat → Prop} {A : Nat → Option RA} {w : World} : ∀ {xs : List X} {cs : List Value}, RcL w F A xs cs → ∀ g ∈ refsL xs, ∃ ra, A g = some ra
  | [], cs, h, g, hg => by simp [refsL] at hg
  | x :: xs, cs, h, g, hg => by
    simp only [RcL] at h
    obtain ⟨c1, c2, rfl, h1, h2⟩ := h
    simp only [refsL, List.mem_append] at hg
    rcases hg with hg | hg
    · exact rc_refs h1 g hg
    · exact rcL_refs h2 g hg
end
theorem rvL_refs {F : Nat → Prop} {A : Nat → Option RA} {w : World} : ∀ {xs : List X} {vs : List Value}, RvL w F A xs vs → ∀ g ∈ refsL xs, ∃ ra, A g = some ra
  | [], vs, h, g, hg => by simp [refsL] at hg
  | x :: xs, [], h, g, hg => by simp [RvL] at h
  | x :: xs, v :: vs, h, g, hg => by
    simp only [RvL] at h
    simp only [refsL, List.mem_append] at hg
    rcases hg with hg | hg
    · rcases h.1 with rfl | ⟨cs, h1, _⟩
      · simp [X.refs] at hg
      · exact rc_refs h1 g hg
    · exact rvL_refs h.2 g hg
theorem rv_refs {F : Nat → Prop} {A : Nat → Option RA} {w : World} {x : X} {v : Value} (h : Rv w F A x v) (g : Nat) (hg : g ∈ x.refs) : ∃ ra, A g = some ra := by
  cases x with
  | bot => simp [X.refs] at hg
  | tup xs =>
    obtain ⟨vs, _, h1⟩ := h
    exact rvL_refs h1 g (by simpa only [X.refs] using hg)
  | _ => obtain ⟨cs, h1, _⟩ := h; exact rc_refs h1 g hg
theorem Inv.closed {F : Nat → Prop} {A : Nat → Option RA} {S : St} {tm : Nat → Value} {w : World} (h : Inv w0 F0 Pb F A S tm w) : Closed S := by
  intro v g hg hn
  have hr := rv_refs (h.tv v) g hg
  obtain ⟨ra, hA⟩ := hr
  obtain ⟨x, hx⟩ := h.lv g ra hA
  rw [hn] at hx; cases hx
theorem wp_const {o : Oper} {a : Act} {w : World} {C : Act → World → Prop} (h : o.wp P a w C (fun _ _ _ => False)) : ∃ a' w', C a' w' := by
  unfold Oper.wp at h
  generalize (execOp a.eval o).run P w = r at h
  unfold Oper.upon at h
  split at h
  · exact ⟨_, _, h⟩
  · exact ⟨_, _, h⟩
  · exact ⟨_, _, h⟩
  · obtain ⟨e, w', fr, hR, _⟩ := h []
    split at hR
    · exact ⟨_, _, hR⟩
    · exact hR.elim
    · obtain ⟨_, _, hf⟩ := hR; exact hf.elim
  · rename_i row args w' 
    obtain ⟨v, w'', hR, _⟩ := h (Frame.ofRow P row args .normal) []
    exact ⟨_, _, hR⟩
  · exact h.elim
  · exact h.elim
theorem stepD_split {o : Oper} {S S1 : St} (hs : stepD T call an ops S o = some S1) : (opStep T call an S o = some S1 ∧ wantedX ops S o = some true) ∨ (S1 = put S o.dst (.tup []) ∧ wantedX ops S o = some false) := by
  unfold stepD at hs
  split at hs
  · split at hs
    · rename_i hw; exact .inl ⟨hs, hw⟩
    · rename_i hw; cases hs; exact .inr ⟨rfl, hw⟩
    · cases hs
  · rename_i heff
    split at hs
    · rename_i x news hq
      split at hs
      · rename_i r' hr
        cases hs
        unfold qD at hq
        split at hq
        · rename_i hw
          split at hq
          · rename_i z nz hz
            split at hq
            · simp only [Option.some.injEq, Prod.mk.injEq] at hq
              obtain ⟨rfl, rfl⟩ := hq
              refine .inl ⟨?_, hw⟩
              unfold opStep
              rw [if_neg heff]
              simp only [hz, EV.freezeL, hr]
            · cases hq
          · cases hq
        · rename_i hw
          simp only [Option.some.injEq, Prod.mk.injEq] at hq
          obtain ⟨rfl, rfl⟩ := hq
          simp only [addR, Option.some.injEq] at hr
          subst hr
          exact .inr ⟨rfl, hw⟩
        · cases hq
      · cases hs
    · cases hs
theorem stepD_live (hT : TOk P T) (hS : ShOk T) (hc : CallOk P call) {o : Oper} (hd : okDst N o = true) {S S1 : St} (hs : stepD T call an ops S o = some S1) {a : Act} {w : World} (h : InvA w0 F0 Pb N S a w) : ∃ a w, InvA w0 F0 Pb N S1 a w := by
  rcases stepD_split hs with ⟨h1, _⟩ | ⟨rfl, hw⟩
  · exact wp_const (opStep_ok hT hS hc (okDst_lt hd) h1 h _)
  · obtain ⟨h1, h2, F, A, hI⟩ := h
    exact ⟨_, _, put_ok (x := .tup []) (v := undef) hI ⟨[], rfl, by simp [RvL]⟩ h1 h2 (okDst_lt hd)⟩
theorem stepD_ok (hT : TOk P T) (hS : ShOk T) (hc : CallOk P call) {i : Nat} {o : Oper} (ho : ops[i]? = some o) (hd : okDst N o = true) {S S1 : St} (hs : stepD T call an ops S o = some S1) {a : Act} {w : World} (h : InvA w0 F0 Pb N S a w) {K : Act → World → Prop} (hK : ∀ a w, InvA w0 F0 Pb N S1 a w → K a w) : wpOp P ops Q i K a w := by
  unfold wpOp
  simp only [ho]
  have skip : ∀ {S1 : St}, some (put S o.dst (.tup [])) = some S1 → wantedX ops S o = some false → (∀ a w, InvA w0 F0 Pb N S1 a w → K a w) → (if Region.wanted o (yielded ops a.tmps) = true then o.wp P a w K Q ∨ (o.asks P a w ∧ LetsOut Q) else K (a.put o.dst undef) w) := by
    intro S1 he hw hK
    cases he
    rw [if_neg (by rw [wantedX_ok h hw]; simp)]
    obtain ⟨h1, h2, F, A, hI⟩ := h
    exact hK _ _ (put_ok (x := .tup []) hI ⟨[], rfl, by simp [RvL]⟩ h1 h2 (okDst_lt hd))
  have go : opStep T call an S o = some S1 → wantedX ops S o = some true → (if Region.wanted o (yielded ops a.tmps) = true then o.wp P a w K Q ∨ (o.asks P a w ∧ LetsOut Q) else K (a.put o.dst undef) w) := by
    intro he hw
    rw [if_pos (wantedX_ok h hw)]
    exact .inl (upon_mono (opStep_ok hT hS hc (okDst_lt hd) he h Q) hK)
  unfold stepD at hs
  split at hs
  · split at hs
    · rename_i hw; exact go hs hw
    · rename_i hw; exact skip hs hw hK
    · cases hs
  · rename_i heff
    split at hs
    · rename_i x news hq
      split at hs
      · rename_i r' hr
        cases hs
        unfold qD at hq
        split at hq
        · rename_i hw
          split at hq
          · rename_i z nz hz
            split at hq
            · simp only [Option.some.injEq, Prod.mk.injEq] at hq
              obtain ⟨rfl, rfl⟩ := hq
              refine go ?_ hw
              unfold opStep
              rw [if_neg heff]
              simp only [hz, EV.freezeL, hr]
            · cases hq
          · cases hq
        · rename_i hw
          simp only [Option.some.injEq, Prod.mk.injEq] at hq
          obtain ⟨rfl, rfl⟩ := hq
          simp only [addR, Option.some.injEq] at hr
          subst hr
          exact skip rfl hw hK
        · cases hq
      · cases hs
    · cases hs
theorem any_ok (hT : TOk P T) (hS : ShOk T) (hc : CallOk P call) (ho : ∀ o ∈ ops.toList, okDst N o = true) {dep : List (List Nat)} {ord : List Nat} (hnd0 : ord.Nodup) (hmem : ∀ i, i ∈ ord ↔ i < ops.size) (hdep : ∀ p i q, ord = p ++ i :: q → depOk T an ops dep p i = true) (hQ : ∀ a w, InvA w0 F0 Pb N S' a w → Q .normal a w) :
    ∀ (fuel : Nat) (L : Array Bool) {S : St} {a : Act} {w : World}, L.size = ops.size → (left ord L).length ≤ fuel → (∀ i, i < ops.size → L.getD i true = true → ∀ j ∈ dep.getD i [], L.getD j false = true) → runD T call an ops ((left ord L).filterMap (ops[·]?)) S = some S' → InvA w0 F0 Pb N S a w →
      wpAny P .any ops Q fuel L a w := by
  have doneOf : ∀ (L : Array Bool), L.size = ops.size → ∀ j, j < ops.size → j ∉ left ord L → L.getD j false = true := by
    intro L hL j hjn hnot
    have : ¬ (!L.getD j true) = true := fun h => hnot (List.mem_filter.2 ⟨(hmem j).2 hjn, h⟩)
    simp only [Array.getD_eq_getD_getElem?] at this ⊢
    have hjl : j < L.size := by omega
    simp [hjl] at this ⊢
    exact this
  -- nothing is ready: nothing is left
  have none_ready : ∀ (L : Array Bool), L.size = ops.size → Region.ready .any ops L = [] → left ord L = [] := by
    intro L hL hr
    cases hl : left ord L with
    | nil => rfl
    | cons i l =>
      exfalso
      have hi : i ∈ left ord L := by rw [hl]; simp
      have hi2 := List.mem_filter.1 hi
      have hlt : i < ops.size := (hmem i).1 hi2.1
      obtain ⟨p, q, hpq, hp, hq⟩ := filter_split (l1 := []) (show ord.filter (fun i => !L.getD i true) = [] ++ i :: l from hl)
      have hmin : ∀ j, j ∈ p → L.getD j false = true := by
        intro j hj
        have hjn : j < ops.size := (hmem j).1 (by rw [hpq]; simp [hj])
        refine doneOf L hL j hjn fun hm => ?_
        have hf := (List.mem_filter.1 hm).2
        have : j ∈ p.filter (fun i => !L.getD i true) := List.mem_filter.2 ⟨hj, hf⟩
        rw [hp] at this
        simp at this
      have hd := hdep p i q hpq
      unfold depOk at hd
      have hoi : ops[i]? = some ops[i] := by simp [hlt]
      simp only [hoi, Bool.and_eq_true, List.all_eq_true, decide_eq_true_eq] at hd
      have : i ∈ Region.ready .any ops L := by
        unfold Region.ready
        refine List.mem_filter.2 ⟨by simpa using hlt, ?_⟩
        rw [hoi]
        simp only [Option.map_some, Option.getD_some, Bool.and_eq_true]
        refine ⟨hi2.2, ?_⟩
        rw [Array.all_eq_true']
        intro e he
        cases hb : Region.binds .any e with
        | false => simp
        | true =>
          simp only [Bool.not_true, Bool.false_or]
          exact hmin e.on (by simpa using hd.1.1.1.1 e.on (List.mem_map.2 ⟨e, List.mem_filter.2 ⟨by simpa using he, hb⟩, rfl⟩))
      rw [hr] at this
      simp at this
  intro fuel
  induction fuel with
  | zero =>
    intro L S a w hL hlen _ hr h
    have hl : left ord L = [] := List.eq_nil_of_length_eq_zero (by omega)
    rw [hl] at hr
    simp only [List.filterMap_nil, runD, Option.some.injEq] at hr
    subst hr
    refine ⟨?_, hQ a w h⟩
    cases hrd : Region.ready .any ops L with
    | nil => rfl
    | cons i l =>
      exfalso
      have : i ∈ Region.ready .any ops L := by rw [hrd]; simp
      unfold Region.ready at this
      have h2 := List.mem_filter.1 this
      simp only [Bool.and_eq_true] at h2
      have : i ∈ left ord L := List.mem_filter.2 ⟨(hmem i).2 (by simpa using h2.1), h2.2.1⟩
      rw [hl] at this; simp at this
  | succ fuel ih =>
    intro L S a w hL hlen hclosed hr h
    refine ⟨fun hnr => ?_, fun i hi => ?_⟩
    · rw [none_ready L hL hnr] at hr
      simp only [List.filterMap_nil, runD, Option.some.injEq] at hr
      subst hr
      exact hQ a w h
    · unfold Region.ready at hi
      have h2 := List.mem_filter.1 hi
      simp only [Bool.and_eq_true] at h2
      have hlt : i < ops.size := by simpa using h2.1
      have hoi : ops[i]? = some ops[i] := by simp [hlt]
      rw [hoi] at h2
      simp only [Option.map_some, Option.getD_some] at h2
      have hil : i ∈ left ord L := List.mem_filter.2 ⟨(hmem i).2 hlt, h2.2.1⟩
      obtain ⟨l1, l2, hsplit⟩ := List.append_of_mem hil
      obtain ⟨pp, qq, hpq, hp1, hq1⟩ := filter_split (show ord.filter (fun i => !L.getD i true) = l1 ++ i :: l2 from hsplit)
      have hd := hdep pp i qq hpq
      unfold depOk at hd
      simp only [hoi, Bool.and_eq_true, List.all_eq_true, decide_eq_true_eq, Bool.or_eq_true] at hd
      have hdirect : ∀ j ∈ direct ops[i], L.getD j false = true := by
        intro j hj
        obtain ⟨e, he, rfl⟩ := List.mem_map.1 hj
        have he2 := List.mem_filter.1 he
        have := (Array.all_eq_true'.1 h2.2.2) e (by simpa using he2.1)
        rw [he2.2] at this
        simpa using this
      have getDs : ∀ j, L.getD j false = true → j < ops.size ∧ L.getD j true = true := by
        intro j hj
        simp only [Array.getD_eq_getD_getElem?] at hj ⊢
        cases hq : L[j]? with
        | none => rw [hq] at hj; simp at hj
        | some b =>
          have := (Array.getElem?_eq_some_iff.1 hq).1
          rw [hq] at hj
          exact ⟨by omega, by simpa using hj⟩
      have hdepl : ∀ j ∈ dep.getD i [], L.getD j false = true := by
        intro j hj
        rcases hd.1.1.1.2 j hj with h3 | h3
        · exact hdirect j (by simpa using h3)
        · obtain ⟨m, hm, hjm⟩ := List.any_eq_true.1 h3
          obtain ⟨q1, q2⟩ := getDs m (hdirect m hm)
          exact hclosed m q1 q2 j (by simpa using hjm)
      have hnd : (left ord L).Nodup := List.Pairwise.filter _ hnd0
      rw [hsplit] at hnd
      have hnodep : ∀ x ∈ l1, x ∈ pp ∧ ¬ (dep.getD i []).contains x = true := by
        intro x hx
        have hxi : x ∈ pp := by rw [← hp1] at hx; exact (List.mem_filter.1 hx).1
        have hxl : x ∈ left ord L := by rw [hsplit]; simp [hx]
        have hxn := (List.mem_filter.1 hxl).2
        refine ⟨hxi, fun h5 => ?_⟩
        have := (getDs x (hdepl x (by simpa using h5))).2
        rw [this] at hxn; simp at hxn
      have hsw : ∀ x ∈ l1.filterMap (ops[·]?), swapOk T an ops x ops[i] = true ∧ x ∈ ops.toList ∧ ∃ j, ops[j]? = some x ∧ dirs ops[i] j = false ∧ (isEff an ops[i].op = true → (upO ops ops[i]).contains j = false) := by
        intro ox hox
        obtain ⟨x, hx, hxo⟩ := List.mem_filterMap.1 hox
        obtain ⟨hxi, hnd⟩ := hnodep x hx
        have h5 := hd.1.1.2 x hxi
        rw [hxo] at h5
        rcases h5 with h5 | h5
        · exact absurd h5 hnd
        · simp only [Bool.and_eq_true, Bool.not_eq_true'] at h5
          refine ⟨h5.1, List.mem_of_getElem? (by rw [Array.getElem?_toList]; exact hxo), x, hxo, h5.2, fun hcf => ?_⟩
          have h6 := hd.2.resolve_left (by rw [hcf]; simp)
          cases hu : (upO ops ops[i]).contains x with
          | false => rfl
          | true => exact absurd (h6 x (by simpa using hu)) hnd
      have hov : isLoose an ops[i].op = true → (∀ x ∈ l1.filterMap (ops[·]?), Over ops x x) ∧ (l1.filterMap (ops[·]?)).Pairwise (Over2 ops) := by
        intro hst
        have h6 := hd.1.2.resolve_left (by rw [hst]; simp)
        have over : ∀ x y ox oy, ops[x]? = some ox → ops[y]? = some oy → overB ops x y = true → Over ops ox oy ∧ (x ≠ y → ∀ d, ox.dst = some d → oy.dst ≠ some d) := by
          intro x y ox oy hox hoy h8
          unfold overB at h8
          rw [hox, hoy] at h8
          simp only [Bool.and_eq_true, Bool.or_eq_true] at h8
          refine ⟨fun d hd2 hin => ?_, fun hne d hd1 hd2 => ?_⟩
          · have h9 := h8.1
            rw [hd2] at h9
            simp at h9
            exact h9 hin
          · have h9 := h8.2.resolve_left (by simpa using hne)
            rw [hd1, hd2] at h9
            simp at h9
        have split : ∀ (l : List Nat), l.Nodup → pairsB ops dep i l = true → (∀ x ∈ l.filter (fun i => !L.getD i true), ¬ (dep.getD i []).contains x = true) → (∀ ox ∈ (l.filter (fun i => !L.getD i true)).filterMap (ops[·]?), Over ops ox ox) ∧ ((l.filter (fun i => !L.getD i true)).filterMap (ops[·]?)).Pairwise (Over2 ops) := by
          intro l
          induction l with
          | nil => intro _ _ _; simp
          | cons x l ih2 =>
            intro hn hp hno
            simp only [pairsB, Bool.and_eq_true, Bool.or_eq_true, List.all_eq_true] at hp
            obtain ⟨hn1, hn2⟩ := List.nodup_cons.1 hn
            rw [List.filter_cons] at hno ⊢
            split
            · rename_i hx
              rw [if_pos hx] at hno
              have ihh := ih2 hn2 hp.2 (fun y hy => hno y (List.mem_cons_of_mem _ hy))
              have hxn := hno x (by simp)
              have hall := hp.1.resolve_left hxn
              rw [List.filterMap_cons]
              cases hox : ops[x]? with
              | none => exact ihh
              | some ox =>
                simp only
                have hxx := (hall x (by simp)).resolve_left hxn
                refine ⟨fun oy hoy => ?_, List.pairwise_cons.2 ⟨fun oy hoy => ?_, ihh.2⟩⟩
                · rcases List.mem_cons.1 hoy with rfl | hoy
                  · exact (over x x _ _ hox hox hxx).1
                  · exact ihh.1 oy hoy
                · obtain ⟨y, hy, hyo⟩ := List.mem_filterMap.1 hoy
                  have hyl := (List.mem_filter.1 hy).1
                  have hyn := hno y (List.mem_cons_of_mem _ hy)
                  have hxy := (hall y (by simp [hyl])).resolve_left hyn
                  obtain ⟨v1, v2⟩ := over x y _ _ hox hyo hxy
                  exact ⟨v1, v2 (fun e => hn1 (e ▸ hyl))⟩
            · rename_i hx
              rw [if_neg hx] at hno
              exact ih2 hn2 hp.2 hno
        have hnpp : pp.Nodup := by rw [hpq] at hnd0; exact (List.nodup_append.1 hnd0).1
        have := split pp hnpp h6 (by rw [hp1]; exact fun x hx => (hnodep x hx).2)
        rw [hp1] at this
        exact this
      have hdst : distD ops.toList = true → ∀ x ∈ l1.filterMap (ops[·]?), ∀ y ∈ l2.filterMap (ops[·]?), sameDst x y = false := by
        intro hds x hx y hy
        obtain ⟨jx, hjx, hxo⟩ := List.mem_filterMap.1 hx
        obtain ⟨jy, hjy, hyo⟩ := List.mem_filterMap.1 hy
        have hne : jx ≠ jy := by
          rintro rfl
          have h1 := hnd
          rw [List.nodup_append] at h1
          exact h1.2.2 jx hjx jx (by simp [hjy]) rfl
        exact distD_spec hds jx jy x y (by rw [Array.getElem?_toList]; exact hxo) (by rw [Array.getElem?_toList]; exact hyo) hne
      rw [hsplit, List.filterMap_append, List.filterMap_cons, hoi] at hr
      obtain ⟨_, S1, _, _, _, hs1, hr1⟩ := bubble (Lv := fun S => ∃ a w, InvA w0 F0 Pb N S a w) (fun S ⟨a, w, _, _, F, A, hI⟩ => hI.closed) (fun S S1 x hx ⟨a, w, hI⟩ hst => stepD_live hT hS hc (ho x hx) hst hI) hsw hov hdst ⟨a, w, h⟩ hr
      rw [← List.filterMap_append] at hr1
      have hl' : left ord (L.setIfInBounds i true) = l1 ++ l2 := by rw [left_set hL hlt, hsplit, filter_ne hnd]
      refine stepD_ok hT hS hc hoi (ho _ (by simp)) hs1 h fun a' w' h' => ih (L.setIfInBounds i true) (by simpa using hL) ?_ (fun k hk hkl j hj => ?_) (by rw [hl']; exact hr1) h'
      · rw [hl']
        rw [hsplit] at hlen
        simp at hlen ⊢
        omega
      · have up : ∀ j, L.getD j false = true → (L.setIfInBounds i true).getD j false = true := by
          intro j hj
          by_cases e : j = i
          · subst e; simp [Array.getD_eq_getD_getElem?, hL, hlt]
          · simp only [Array.getD_eq_getD_getElem?] at hj ⊢
            rw [Array.getElem?_setIfInBounds]
            simp [Ne.symm e]
            simpa using hj
        by_cases e : k = i
        · subst e; exact up j (hdepl j hj)
        · have : L.getD k true = true := by
            simp only [Array.getD_eq_getD_getElem?] at hkl ⊢
            rw [Array.getElem?_setIfInBounds] at hkl
            simpa [Ne.symm e] using hkl
          exact up j (hclosed k hk this j hj)
theorem filterMap_range {α : Type} (ops : Array α) : (List.range ops.size).filterMap (ops[·]?) = ops.toList := by
  have : ∀ (l : List α), (List.range l.length).filterMap (l[·]?) = l := by
    intro l
    induction l with
    | nil => rfl
    | cons x l ih =>
      rw [List.length_cons, List.range_succ_eq_map, List.filterMap_cons]
      simp only [List.getElem?_cons_zero, List.filterMap_map]
      congr 1
  have h2 := this ops.toList
  simpa using h2
theorem ordChk_spec {dep : List (List Nat)} : ∀ {l pre : List Nat}, ordChk T an ops dep pre l = true → (∀ p i q, l = p ++ i :: q → depOk T an ops dep (pre ++ p) i = true) ∧ (pre.Nodup → (pre ++ l).Nodup) ∧ ∀ i ∈ l, i < ops.size
  | [], pre, h => ⟨fun p i q hl => by simp at hl, fun hp => by simpa using hp, by simp⟩
  | a :: l, pre, h => by
    simp only [ordChk, Bool.and_eq_true, Bool.not_eq_true', decide_eq_true_eq] at h
    obtain ⟨⟨⟨h1, h2⟩, h3⟩, h4⟩ := h
    obtain ⟨i1, i2, i3⟩ := ordChk_spec h4
    refine ⟨fun p i q hl => ?_, fun hp => ?_, fun i hi => ?_⟩
    · cases p with
      | nil =>
        simp only [List.nil_append, List.cons.injEq] at hl
        obtain ⟨rfl, rfl⟩ := hl
        simpa using h1
      | cons b p =>
        simp only [List.cons_append, List.cons.injEq] at hl
        obtain ⟨rfl, rfl⟩ := hl
        have := i1 p i q rfl
        simpa using this
    · have : (pre ++ [a]).Nodup := by
        rw [List.nodup_append]
        refine ⟨hp, by simp, fun x hx y hy e => ?_⟩
        simp only [List.mem_singleton] at hy
        subst hy; subst e
        rw [List.contains_eq_mem] at h2
        simp [hx] at h2
      have := i2 this
      simpa using this
    · rcases List.mem_cons.1 hi with rfl | hi
      · exact h3
      · exact i3 i hi
theorem draw_ok (hm : P.follows .mixedOrders = true) (hT : TOk P T) (hS : ShOk T) (hc : CallOk P call) (hd : drawChk T an ops = true) (ho : ∀ o ∈ ops.toList, okDst N o = true) {S : St} (hr : runD T call an ops (opsOf an ops) S = some S') (hQ : ∀ a w, InvA w0 F0 Pb N S' a w → Q .normal a w)
    {a : Act} {w : World} (h : InvA w0 F0 Pb N S a w) (id : Nat) : (Code.region id ops true).wp P Q a w := by
  simp only [drawChk, Bool.and_eq_true, List.all_eq_true] at hd
  obtain ⟨hin, hchk⟩ := hd
  obtain ⟨s1, s2, s3⟩ := ordChk_spec hchk
  have hnd : (ordOf an ops).Nodup := by simpa using s2 .nil
  have hmem : ∀ i, i ∈ ordOf an ops ↔ i < ops.size := by
    intro i
    exact ⟨s3 i, fun hi => by simpa using hin i (by simpa using hi)⟩
  refine wp_region_any hm (any_ok (S := S) hT hS hc ho (dep := clos ops.toList []) hnd hmem (fun p i q hpq => by simpa using s1 p i q hpq) hQ ops.size _ (by simp) ?_ ?_ ?_ ?_)
  · have h1 : (left (ordOf an ops) (Array.replicate ops.size false)).length ≤ (ordOf an ops).length := List.length_filter_le _ _
    have h2 : (ordOf an ops).Perm (List.range ops.size) := (List.perm_ext_iff_of_nodup hnd List.nodup_range).2 fun i => by rw [hmem i]; simp
    have h3 := h2.length_eq
    simp at h3
    omega
  · intro i hi hl
    exfalso
    simp [Array.getD_eq_getD_getElem?, hi] at hl
  · have : left (ordOf an ops) (Array.replicate ops.size false) = ordOf an ops := by
      unfold left
      refine List.filter_eq_self.2 fun i hi => ?_
      have : i < ops.size := (hmem i).1 hi
      simp [Array.getD_eq_getD_getElem?, this]
    rw [this]
    exact hr
  · obtain ⟨h1, h2, F, A, h3⟩ := h
    exact ⟨h1, h2, F, A, h3.grow ((Below.refl _ _).drew)⟩
end
end Go.EV
