/- Regions whose order the machine draws: every order comes to the same. -/
import Derived.Test.YtkklehfcadkikaaEv15
import Derived.Orders
set_option linter.unusedVariables false
set_option linter.unusedSimpArgs false
namespace Go.EV
open Go.RowKit
def RSub (r r' : Nat → Option X) : Prop := ∀ g c, r g = some c → r' g = some c
def RSubL (L : List Nat) (r r' : Nat → Option X) : Prop := ∀ g ∈ L, ∀ c, r g = some c → r' g = some c
theorem elems_sub {r r' : Nat → Option X} {x : X} (h : RSubL x.refs r r') {c : List X} (he : elems r x = some c) : elems r' x = some c := by
  unfold elems at he ⊢
  split at he
  · exact he
  · split at he
    · rename_i hg; simp only [h _ (by simp [X.refs]) _ hg]; exact he
    · cases he
  · split at he
    · rename_i hg; simp only [h _ (by simp [X.refs]) _ hg]; exact he
    · cases he
  · cases he
mutual
theorem frz_sub {r r' : Nat → Option X} : ∀ {x y : X}, RSubL x.refs r r' → frz r x = some y → frz r' x = some y
  | .ag xs, y, h, he => by
    simp only [frz] at he ⊢
    obtain ⟨ys, hys, rfl⟩ := Option.map_eq_some_iff.1 he
    rw [frzL_sub (by simpa only [X.refs] using h) hys]; rfl
  | .hw g, y, h, he => by
    simp only [frz] at he ⊢
    split at he
    · rename_i hg; simp only [h _ (by simp [X.refs]) _ hg]; exact he
    · cases he
  | .hd g lo len f, y, h, he => by
    simp only [frz] at he ⊢
    split at he
    · rename_i hg; simp only [h _ (by simp [X.refs]) _ hg]; exact he
    · cases he
  | .b v, y, h, he | .i k n, y, h, he | .s l, y, h, he | .ar d xs, y, h, he | .sl f xs, y, h, he | .np, y, h, he | .pf x, y, h, he | .nm, y, h, he | .nf, y, h, he => by simpa only [frz] using he
  | .pt g o p, y, h, he => by
    simp only [frz] at he ⊢
    obtain ⟨rfl, rfl, c, hg, hz, rfl⟩ := ptF_some he
    simp only [ptF, h _ (by simp [X.refs]) _ hg, hz]
  | .bot, y, h, he | .tup _, y, h, he | .fn _ _, y, h, he | .ow _ _, y, h, he | .ob _, y, h, he => by simp [frz] at he
theorem frzL_sub {r r' : Nat → Option X} : ∀ {xs ys : List X}, RSubL (refsL xs) r r' → frzL r xs = some ys → frzL r' xs = some ys
  | [], ys, h, he => by simpa only [frzL] using he
  | x :: xs, ys, h, he => by
    simp only [frzL] at he ⊢
    split at he
    · rename_i y ys' h1 h2
      simp only [frz_sub (fun g hg => h g (by simp [refsL, hg])) h1, frzL_sub (fun g hg => h g (by simp [refsL, hg])) h2]; exact he
    · cases he
end
theorem frw_sub {r r' : Nat → Option X} {x y : X} (h : RSubL x.refs r r') (he : frw r x = some y) : frw r' x = some y := by
  obtain ⟨z, hz, rfl⟩ := Option.map_eq_some_iff.1 he
  simp only [frw, frz_sub h hz, Option.map_some]
theorem frwL_sub {r r' : Nat → Option X} {xs ys : List X} (h : RSubL (refsL xs) r r') (he : frwL r xs = some ys) : frwL r' xs = some ys := by
  obtain ⟨zs, hz, rfl⟩ := Option.map_eq_some_iff.1 he
  simp only [frwL, frzL_sub h hz, Option.map_some]
theorem refsL_append : ∀ (l m : List X), refsL (l ++ m) = refsL l ++ refsL m
  | [], m => by simp [refsL]
  | x :: l, m => by simp [refsL, refsL_append l m]
theorem callX_sub {call : FuncId → List X → Option (X × List X)} {an : FuncId → An} {r r' : Nat → Option X} {dst : Nat} {f : FuncId} {ys : List X} (h : RSubL (refsL ys) r r') {q : X × List (Nat × X) × List Nat} (he : callX call an r dst f ys = some q) : callX call an r' dst f ys = some q := by
  unfold callX at he ⊢
  split at he
  · rename_i hm; rw [if_pos hm]
    split at he
    · rename_i ts hts; simp only [frzL_sub h hts]; exact he
    · cases he
  · cases he
theorem opq_sub {T : TT} {call : FuncId → List X → Option (X × List X)} {an : FuncId → An} {r r' : Nat → Option X} {dst : Nat} {o : Op} {xs : List X} (h : RSubL (refsL xs) r r') {q : X × List (Nat × X) × List Nat} (he : opq T call an r dst o xs = some q) : opq T call an r' dst o xs = some q := by
  have lenS : ∀ {x : X} {n : Nat}, RSubL x.refs r r' → lenX r x = some n → lenX r' x = some n := by
    intro x n h hx
    unfold lenX at hx ⊢
    split at hx
    · exact hx
    · obtain ⟨c, hc, rfl⟩ := Option.map_eq_some_iff.1 hx
      rw [elems_sub h hc]; rfl
  cases o <;> simp only [opq] at he ⊢ <;> (try exact he)
  case buildSlice t n ps =>
    unfold buildSlX at he ⊢
    split at he
    · split at he
      · split at he
        · rename_i hz; rw [if_pos hz]; exact he
        · rename_i hz
          rw [if_neg hz]
          split at he
          · rename_i xs' hx; simp only [frwL_sub h hx]; exact he
          · cases he
      · cases he
    · cases he
  case load t y =>
    unfold x1 at he ⊢
    split at he
    · rename_i x
      have h : RSubL x.refs r r' := by simpa [refsL] using h
      dsimp only at he ⊢
      have key : ∀ z, ldV T r t x = some z → ldV T r' t x = some z := by
        intro z hz
        unfold ldV at hz ⊢
        split at hz
        · split at hz
          · split at hz
            · rename_i hg; simp only [h _ (by simp [X.refs]) _ hg]; exact hz
            · cases hz
          · exact hz
          · cases hz
        · cases hz
      cases hl : ldV T r t x with
      | none => rw [hl] at he; cases he
      | some z => rw [hl] at he; simp only [key z hl]; exact he
    · cases he
  case convert src t y =>
    unfold x1 at he ⊢
    split at he
    · rename_i x
      have h : RSubL x.refs r r' := by simpa [refsL] using h
      unfold convX at he ⊢
      split at he
      · exact he
      · exact he
      · exact he
      · split at he
        · rename_i hu; rw [if_pos hu]
          split at he
          · rename_i c hc; simp only [elems_sub h hc]; exact he
          · cases he
        · cases he
      · cases he
    · cases he
  case slice t y lo hi mx =>
    unfold sliceX at he ⊢
    split at he
    · rename_i x xs
      have h : RSubL x.refs r r' := fun g hg => h g (by simp [refsL, hg])
      dsimp only at he ⊢
      split at he
      · exact he
      · split at he
        · rename_i ei hei
          have key : ∀ (es : Nat) (l1 l2 l3 : Option X) z, cut r es x l1 l2 l3 = some z → cut r' es x l1 l2 l3 = some z := by
            intro es l1 l2 l3 z hz
            unfold cut at hz ⊢
            split at hz
            · exact hz
            · split at hz
              · rename_i hg; simp only [h _ (by simp [X.refs]) _ hg]; exact hz
              · cases hz
            · split at hz
              · rename_i hg; simp only [h _ (by simp [X.refs]) _ hg]; exact hz
              · cases hz
            · cases hz
          revert he
          generalize (optX lo xs).1 = l1
          generalize (optX hi (optX lo xs).2).1 = l2
          generalize (optX mx (optX hi (optX lo xs).2).2).1 = l3
          intro he
          cases hc : cut r ei.size x l1 l2 l3 with
          | none => rw [hc] at he; cases he
          | some z => rw [hc] at he; rw [key _ _ _ _ _ hc]; exact he
        · cases he
      · cases he
    · cases he
  case indexAddr t y n =>
    unfold x2 at he ⊢
    split at he
    · rename_i x n'
      have h : RSubL x.refs r r' := fun g hg => h g (by simp [refsL, hg])
      unfold intX at he ⊢
      dsimp only at he ⊢
      split at he
      · rename_i k m
        have key : ∀ x : X, RSubL x.refs r r' → ∀ z, idxA T r t x m = some z → idxA T r' t x m = some z := by
          clear h he
          intro x h z hz
          unfold idxA at hz ⊢
          split at hz
          · split at hz
            · split at hz
              · exact hz
              · split at hz
                · rename_i hg; simp only [h _ (by simp [X.refs]) _ hg]; exact hz
                · cases hz
              · split at hz
                · rename_i hg; simp only [h _ (by simp [X.refs]) _ hg]; exact hz
                · cases hz
              · cases hz
            · cases hz
          · exact hz
          · cases hz
        cases hl : idxA T r t x m with
        | none => rw [hl] at he; cases he
        | some z => rw [hl] at he; simp only [key x (fun g hg => h g (by simp [refsL, hg])) z hl]; exact he
      · cases he
    · cases he
  case call c =>
    split at he
    · unfold x1 at he ⊢
      split at he
      · rename_i x
        have h : RSubL x.refs r r' := by simpa [refsL] using h
        dsimp only at he ⊢
        have key : ∀ t z, lenV T r t x = some z → lenV T r' t x = some z := by
          intro t z hz
          unfold lenV at hz ⊢
          split at hz
          · have k2 : ∀ z, (lenX r x).map (fun (n : Nat) => X.i .i64 n) = some z → (lenX r' x).map (fun (n : Nat) => X.i .i64 n) = some z := by
              intro z hz
              obtain ⟨n, hn, rfl⟩ := Option.map_eq_some_iff.1 hz
              rw [lenS h hn]; rfl
            cases x <;> first | (cases hz; done) | exact k2 _ hz
          · exact hz
          · cases hz
        cases hl : lenV T r (c.argTypes[0]?) x with
        | none => rw [hl] at he; cases he
        | some z => rw [hl] at he; simp only [key _ z hl]; exact he
      · cases he
    · exact he
    · exact he
    · exact callX_sub (fun g hg => h g (by cases xs with | nil => simp [refsL] at hg | cons y ys => simp only [List.tail_cons] at hg; simp [refsL, hg])) he
    · split at he
      · rename_i f cap args
        refine callX_sub (fun g hg => h g ?_) he
        rw [refsL_append] at hg
        simp only [refsL, X.refs]
        rcases List.mem_append.1 hg with hg | hg
        · simp [hg]
        · simp [hg]
      · cases he
    · cases he
theorem addR_sub {lim : Nat} : ∀ {l : List (Nat × X)} {r r' : Nat → Option X}, addR lim r l = some r' → RSub r r'
  | [], r, r', h => by simp only [addR, Option.some.injEq] at h; subst h; exact fun _ _ h => h
  | (g, x) :: l, r, r', h => by
    simp only [addR] at h
    split at h
    · rename_i hg
      intro k c hk
      refine addR_sub h k c ?_
      unfold upd
      by_cases e : k = g
      · subst e; rw [(freeN_none hg).1] at hk; cases hk
      · simpa [e] using hk
    · cases h
theorem upd_comm {α : Type} (f : Nat → α) {a b : Nat} (h : a ≠ b) (x y : α) : upd (upd f a x) b y = upd (upd f b y) a x := by
  funext k
  unfold upd
  by_cases e : k = a
  · subst e; simp [h]
  · simp [e]
theorem addR_one {lim : Nat} : ∀ {l : List (Nat × X)} {r r2 : Nat → Option X} {g : Nat} {x : X}, r g = none → addR lim (upd r g (some x)) l = some r2 → ∃ r1, addR lim r l = some r1 ∧ r1 g = none ∧ r2 = upd r1 g (some x)
  | [], r, r2, g, x, hg, h => by
    simp only [addR, Option.some.injEq] at h
    exact ⟨r, rfl, hg, h.symm⟩
  | (k, y) :: l, r, r2, g, x, hg, h => by
    simp only [addR] at h
    split at h
    · rename_i hk
      by_cases e : k = g
      · subst e; simp [upd, freeN] at hk
      · have hk' : freeN lim r k = true := by simpa [upd, e, freeN] using hk
        rw [upd_comm r (Ne.symm e) (some x) (some y)] at h
        obtain ⟨r1, h1, h2, h3⟩ := addR_one (r := upd r k (some y)) (by simp [upd, Ne.symm e, hg]) h
        exact ⟨r1, by simp only [addR, hk']; exact h1, h2, h3⟩
    · cases h
theorem addR_comm {lim : Nat} : ∀ {n1 n2 : List (Nat × X)} {r r1 r2 : Nat → Option X}, addR lim r n1 = some r1 → addR lim r1 n2 = some r2 → ∃ r1', addR lim r n2 = some r1' ∧ addR lim r1' n1 = some r2
  | [], n2, r, r1, r2, h1, h2 => by
    simp only [addR, Option.some.injEq] at h1
    subst h1
    exact ⟨r2, h2, rfl⟩
  | (g, x) :: n1, n2, r, r1, r2, h1, h2 => by
    simp only [addR] at h1
    split at h1
    · rename_i hg
      obtain ⟨q, q1, q2⟩ := addR_comm h1 h2
      obtain ⟨hg1, hg2⟩ := freeN_none hg
      obtain ⟨q', p1, p2, rfl⟩ := addR_one hg1 q1
      have p3 : freeN lim q' g = true := by simp [freeN, p2, hg2]
      exact ⟨q', p1, by simp only [addR, p3]; exact q2⟩
    · cases h1
def isStore : Op → Bool
  | .store _ _ _ => true
  | _ => false
def isLoose (o : Op) : Bool := isStore o || isApp o
/-- x, then p: may they change places? -/
def swapOk (T : TT) (an : FuncId → An) (ops : Array Oper) (x p : Oper) : Bool :=
  x.apart ops p && !isEff an x.op && (!isEff an p.op || isStore p.op || (isApp p.op && !mkR T x))
/-- No name without a place. -/
def Closed (S : St) : Prop := ∀ v, ∀ g ∈ (S.t v).refs, S.r g ≠ none
theorem Closed.ev {S : St} (h : Closed S) (x : Operand) : ∀ g ∈ (S.ev x).refs, S.r g ≠ none := by
  cases x with
  | tmp t => exact h t
  | const c =>
    intro g hg
    exfalso
    revert hg
    simp only [St.ev]
    unfold ofConst
    split <;> simp [X.refs]
  | global g => intro k hk; simp [St.ev, X.refs] at hk
  | func f => intro k hk; simp [St.ev, X.refs, refsL] at hk
theorem Closed.evs {S : St} (h : Closed S) : ∀ (l : List Operand), ∀ g ∈ refsL (l.map S.ev), S.r g ≠ none
  | [], g, hg => by simp [refsL] at hg
  | x :: l, g, hg => by
    simp only [List.map_cons, refsL, List.mem_append] at hg
    rcases hg with hg | hg
    · exact h.ev x g hg
    · exact h.evs l g hg
theorem opq_nr {T : TT} {call : FuncId → List X → Option (X × List X)} {an : FuncId → An} {r r' : Nat → Option X} {dst : Nat} {o : Op} {xs : List X} (h : readsR o = false) : opq T call an r dst o xs = opq T call an r' dst o xs := by
  cases o <;> simp only [readsR, Bool.true_eq_false] at h <;> rfl
theorem addR_upd {lim : Nat} : ∀ {l : List (Nat × X)} {r r1 : Nat → Option X} {g : Nat} {c c' : X}, r g = some c → addR lim r l = some r1 → addR lim (upd r g (some c')) l = some (upd r1 g (some c'))
  | [], r, r1, g, c, c', hg, h => by simp only [addR, Option.some.injEq] at h ⊢; rw [h]
  | (k, x) :: l, r, r1, g, c, c', hg, h => by
    simp only [addR] at h ⊢
    split at h
    · rename_i hk
      obtain ⟨hk1, hk2⟩ := freeN_none hk
      have hne : k ≠ g := fun e => by subst e; rw [hg] at hk1; cases hk1
      have hk' : freeN lim (upd r g (some c')) k = true := by simp [freeN, upd, hne, hk1, hk2]
      rw [hk']
      simp only
      rw [upd_comm r (Ne.symm hne) (some c') (some x)]
      exact addR_upd (c := c) (by simp [upd, Ne.symm hne, hg]) h
    · cases h
section
variable {T : TT} {call : FuncId → List X → Option (X × List X)} {an : FuncId → An} {ops : Array Oper}
theorem ev_put {S : St} {r' : Nat → Option X} {d : Option Nat} {v : X} {x : Operand} (h : ∀ t, x = .tmp t → d ≠ some t) : (put { S with r := r' } d v).ev x = S.ev x := by
  cases x with
  | tmp t =>
    cases d with
    | none => rfl
    | some d =>
      have : t ≠ d := fun e => h t rfl (by rw [e])
      simp [put, St.ev, upd, this]
  | const c => cases d <;> rfl
  | global g => cases d <;> rfl
  | func f => cases d <;> rfl
theorem operand_looks {o : Oper} {t : Nat} (h : Operand.tmp t ∈ o.op.operands.toList) : t ∈ o.looksAt ops := by
  unfold Oper.looksAt
  exact List.mem_append.2 (.inl (List.mem_filterMap.2 ⟨.tmp t, h, rfl⟩))
/-- What an operation sees does not hang on a slot that it does not look at. -/
theorem look_put {S : St} {r' : Nat → Option X} {d : Option Nat} {v : X} {o : Oper} (h : ∀ t, d = some t → t ∉ o.looksAt ops) :
    o.op.operands.toList.map (put { S with r := r' } d v).ev = o.op.operands.toList.map S.ev ∧ wantedX ops (put { S with r := r' } d v) o = wantedX ops S o := by
  constructor
  · refine List.map_congr_left fun x hx => ev_put fun t ht hd => ?_
    subst ht
    exact h t hd (operand_looks hx)
  · unfold wantedX
    cases hg : o.guard with
    | none => rfl
    | some jw =>
      obtain ⟨j, want⟩ := jw
      simp only
      cases hj : (ops[j]?).bind (·.dst) with
      | none => rfl
      | some e =>
        simp only
        have hl : e ∈ o.looksAt ops := by
          unfold Oper.looksAt
          refine List.mem_append.2 (.inr ?_)
          rw [hg]; simp [hj]
        have : (put { S with r := r' } d v).t e = S.t e := by
          cases d with
          | none => rfl
          | some d =>
            have : e ≠ d := fun he => h d rfl (he ▸ hl)
            simp [put, upd, this]
        rw [this]
theorem swap_quiet {x p : Oper} (hap : x.apart ops p = true) (hx : isEff an x.op = false) (hp : isEff an p.op = false) {S S1 S2 : St} (hcl : Closed S) (h1 : stepD T call an ops S x = some S1) (h2 : stepD T call an ops S1 p = some S2) : ∃ S1', stepD T call an ops S p = some S1' ∧ stepD T call an ops S1' x = some S2 := by
  obtain ⟨a1, a2, a3⟩ := Oper.apart_spec hap
  unfold stepD at h1 h2
  rw [hx] at h1
  rw [hp] at h2
  simp only [Bool.false_eq_true, if_false] at h1 h2
  split at h1
  · rename_i vx nx hqx
    split at h1
    · rename_i r1 hr1
      cases h1
      split at h2
      · rename_i vp np hqp
        split at h2
        · rename_i r2 hr2
          cases h2
          have hr2' : addR nlim r1 np = some r2 := by
            have : (put { S with r := r1 } x.dst vx).r = r1 := by cases x.dst <;> rfl
            rw [this] at hr2; exact hr2
          have hsub1 := addR_sub hr1
          -- p first
          obtain ⟨l1, l2⟩ := look_put (ops := ops) (S := S) (r' := r1) (d := x.dst) (v := vx) (o := p) a1
          have hpr : (put { S with r := r1 } x.dst vx).r = r1 := by cases x.dst <;> rfl
          have hqp' : qD T call an ops S p = some (vp, np) := by
            unfold qD at hqp ⊢
            rw [l2, l1, hpr] at hqp
            split at hqp
            · rename_i hw
              split at hqp
              · rename_i z news hz
                have : opq T call an S.r (dstOf p) p.op (p.op.operands.toList.map S.ev) = some (z, news, []) := by
                  refine opq_sub (fun g hg c hc => ?_) hz
                  have := hcl.evs _ g hg
                  cases hgs : S.r g with
                  | none => exact absurd hgs this
                  | some c0 => rw [hsub1 g c0 hgs] at hc; exact hc
                first | (rw [hw, this]; exact hqp) | (rw [this]; exact hqp)
              · cases hqp
            · rename_i hw; first | exact hqp | (rw [hw]; exact hqp)
            · cases hqp
          obtain ⟨r1', q1, q2⟩ := addR_comm hr1 hr2'
          have hstep1 : stepD T call an ops S p = some (put { S with r := r1' } p.dst vp) := by
            unfold stepD
            rw [hp]
            simp only [Bool.false_eq_true, if_false, hqp', q1]
          refine ⟨_, hstep1, ?_⟩
          obtain ⟨m1, m2⟩ := look_put (ops := ops) (S := S) (r' := r1') (d := p.dst) (v := vp) (o := x) (fun t ht => a3 t ht)
          have hxr : (put { S with r := r1' } p.dst vp).r = r1' := by cases p.dst <;> rfl
          have hqx' : qD T call an ops (put { S with r := r1' } p.dst vp) x = some (vx, nx) := by
            unfold qD at hqx ⊢
            rw [m2, m1, hxr]
            split at hqx
            · rename_i hw
              (try rw [hw])
              split at hqx
              · rename_i z news hz
                rw [opq_sub (fun g _ => addR_sub q1 g) hz]
                exact hqx
              · cases hqx
            · rename_i hw; first | exact hqx | (rw [hw]; exact hqx)
            · cases hqx
          unfold stepD
          rw [hx]
          simp only [Bool.false_eq_true, if_false, hqx', hxr, q2]
          congr 1
          cases hdx : x.dst with
          | none => cases hdp : p.dst <;> rfl
          | some dx =>
            cases hdp : p.dst with
            | none => rfl
            | some dp =>
              have hne : dx ≠ dp := fun e => a2 dx hdx (by rw [hdp, e])
              simp only [put]
              rw [upd_comm S.t hne vx vp]
        · cases h2
      · cases h2
    · cases h1
  · cases h1

theorem storeIn_eq {S : St} {ti : TI} {g off : Nat} {p : List Nat} {v z : X} {S' : St} (h : storeIn S ti g off p v = some (z, S')) : ∃ c, S.r g = some c ∧ z = .bot ∧ S' = { S with r := upd S.r g (some (setAt c p v)) } ∧ ∀ (t : Nat → X) (r : Nat → Option X), r g = some c → storeIn { t := t, r := r } ti g off p v = some (.bot, { t := t, r := upd r g (some (setAt c p v)) }) := by
  unfold storeIn at h
  split at h
  · rename_i c hc
    split at h
    · rename_i y o' hn
      split at h
      · rename_i hcond
        simp only [Option.some.injEq, Prod.mk.injEq] at h
        obtain ⟨rfl, rfl⟩ := h
        refine ⟨c, hc, rfl, rfl, fun t r hr => ?_⟩
        unfold storeIn
        simp only [hr, hn]
        rw [if_pos hcond]
      · cases h
    · cases h
  · cases h
/-- A store hangs on the place alone that it writes. -/
theorem storeX_eq {S : St} {t : Nat} {g off : Nat} {path : List Nat} {v z : X} {S' : St} {c : X} (hc : S.r g = some c) (hin : inAr c path = false ∨ v.refs = []) (h : storeX T S t (.pt g off path) v = some (z, S')) :
    ∃ c', z = .bot ∧ S' = { S with r := upd S.r g (some c') } ∧ ∀ (t' : Nat → X) (r : Nat → Option X), r g = some c → storeX T { t := t', r := r } t (.pt g off path) v = some (.bot, { t := t', r := upd r g (some c') }) := by
  unfold storeX at h
  simp only [hc] at h
  split at h
  · rename_i ti c2 hti he
    cases he
    split at h
    · rename_i hia
      have hv : v.refs = [] := by rcases hin with hin | hin; rw [hin] at hia; cases hia; exact hin
      split at h
      · rename_i v' S2 hv' hS2
        rw [hv] at hS2
        simp only [EV.freezeL, Option.some.injEq] at hS2
        subst hS2
        obtain ⟨c3, h1, h2, h3, h4⟩ := storeIn_eq h
        rw [hc] at h1; cases h1
        refine ⟨_, h2, h3, fun t' r hr => ?_⟩
        unfold storeX
        simp only [hr, hti, if_pos hia, hv, EV.freezeL]
        have : frw r v = some v' := frw_sub (fun k hk => by rw [hv] at hk; cases hk) hv'
        simp only [this]
        exact h4 t' r hr
      · cases h
    · rename_i hia
      obtain ⟨c3, h1, h2, h3, h4⟩ := storeIn_eq h
      rw [hc] at h1; cases h1
      refine ⟨_, h2, h3, fun t' r hr => ?_⟩
      unfold storeX
      simp only [hr, hti, if_neg hia]
      exact h4 t' r hr
  · cases h
theorem put_r {S : St} {d : Option Nat} {v : X} : (put S d v).r = S.r := by cases d <;> rfl
theorem put_comm {t : Nat → X} {r : Nat → Option X} {d e : Option Nat} {x y : X} (h : ∀ k, d = some k → e ≠ some k) : put (put { t := t, r := r } d x) e y = put (put { t := t, r := r } e y) d x := by
  cases d with
  | none => rfl
  | some d =>
    cases e with
    | none => rfl
    | some e =>
      have hne : d ≠ e := fun he => h d rfl (by rw [he])
      simp only [put]
      rw [upd_comm t hne x y]
theorem swap_store {x p : Oper} (hap : x.apart ops p = true) (hx : isEff an x.op = false) {t : Nat} {y z : Operand} (hop : p.op = .store t y z) {S S1 S2 : St} (hcl : Closed S)
    (hf : wantedX ops S p = some true → ∃ g off path c, S.ev y = .pt g off path ∧ S1.r g = some c ∧ (inAr c path = false ∨ (S.ev z).refs = []) ∧ (readsR x.op = true → g ∉ refsL (x.op.operands.toList.map S.ev)))
    (h1 : stepD T call an ops S x = some S1) (h2 : stepD T call an ops S1 p = some S2) : ∃ S1', stepD T call an ops S p = some S1' ∧ stepD T call an ops S1' x = some S2 := by
  obtain ⟨a1, a2, a3⟩ := Oper.apart_spec hap
  have hp : isEff an p.op = true := by rw [hop]; rfl
  unfold stepD at h1 h2
  rw [hx] at h1
  rw [hp] at h2
  simp only [Bool.false_eq_true, if_false, if_true] at h1 h2
  split at h1
  · rename_i vx nx hqx
    split at h1
    · rename_i r1 hr1
      cases h1
      have hsub1 := addR_sub hr1
      obtain ⟨l1, l2⟩ := look_put (ops := ops) (S := S) (r' := r1) (d := x.dst) (v := vx) (o := p) a1
      rw [l2] at h2
      -- x behind it
      have back : ∀ (rp r2 : Nat → Option X) (vp : X), (∀ q, opq T call an S.r (dstOf x) x.op (x.op.operands.toList.map S.ev) = some q → opq T call an rp (dstOf x) x.op (x.op.operands.toList.map S.ev) = some q) → addR nlim rp nx = some r2 →
          stepD T call an ops (put { S with r := rp } p.dst vp) x = some (put (put { S with r := r2 } p.dst vp) x.dst vx) := by
        intro rp r2 vp ho hr
        obtain ⟨m1, m2⟩ := look_put (ops := ops) (S := S) (r' := rp) (d := p.dst) (v := vp) (o := x) (fun t ht => a3 t ht)
        have hqx' : qD T call an ops (put { S with r := rp } p.dst vp) x = some (vx, nx) := by
          unfold qD at hqx ⊢
          rw [m2, m1, put_r]
          split at hqx
          · rename_i hw
            (try rw [hw])
            split at hqx
            · rename_i z news hz
              rw [ho _ hz]
              exact hqx
            · cases hqx
          · rename_i hw; first | exact hqx | (rw [hw]; exact hqx)
          · cases hqx
        unfold stepD
        rw [hx]
        simp only [Bool.false_eq_true, if_false, hqx', put_r, hr]
        congr 1
        cases p.dst <;> rfl
      split at h2
      · rename_i hw
        obtain ⟨g, off, path, c, hy, hc1, hin, hread⟩ := hf hw
        rw [put_r] at hc1
        have hgn : S.r g ≠ none := hcl.ev y g (by rw [hy]; simp [X.refs])
        have hc : S.r g = some c := by
          cases hgs : S.r g with
          | none => exact absurd hgs hgn
          | some c0 =>
            have e1 := hsub1 g c0 hgs
            have e2 : r1 g = some c := hc1
            rw [e1] at e2; exact e2
        unfold opStep at h2
        rw [if_pos hp, l1, hop] at h2
        simp only [eff, Op.operands, List.map_cons, List.map_nil, hy] at h2
        split at h2
        · rename_i q S3 hst
          cases h2
          have hst' : storeX T (put { S with r := r1 } x.dst vx) t (.pt g off path) (S.ev z) = some (q, S3) := hst
          obtain ⟨c', rfl, rfl, h4⟩ := storeX_eq (T := T) (S := put { S with r := r1 } x.dst vx) (by rw [put_r]; exact hc1) hin hst'
          have hstep1 : stepD T call an ops S p = some (put { S with r := upd S.r g (some c') } p.dst .bot) := by
            unfold stepD
            rw [hp]
            simp only [if_true, hw]
            unfold opStep
            rw [if_pos hp, hop]
            simp only [eff, Op.operands, List.map_cons, List.map_nil, hy]
            have h5 := h4 S.t S.r hc
            have h6 : storeX T S t (.pt g off path) (S.ev z) = some (.bot, { S with r := upd S.r g (some c') }) := h5
            rw [h6]
          refine ⟨_, hstep1, ?_⟩
          rw [back (upd S.r g (some c')) (upd r1 g (some c')) .bot (fun q hq => ?_) (addR_upd hc hr1)]
          · congr 1
            rw [put_comm (fun k hk => fun e => a2 k e hk)]
            cases x.dst <;> rfl
          · cases hrd : readsR x.op with
            | false => rw [← opq_nr (r := S.r) hrd]; exact hq
            | true =>
              have hng := hread hrd
              exact opq_sub (fun k hk c hkc => by
                have : k ≠ g := fun e => hng (e ▸ hk)
                simpa [upd, this] using hkc) hq
        · cases h2
      · rename_i hw
        cases h2
        refine ⟨put S p.dst (.tup []), ?_, ?_⟩
        · unfold stepD
          rw [hp]
          simp only [if_true, hw]
        · have := back S.r r1 (.tup []) (fun q hq => hq) hr1
          have e1 : (put { S with r := S.r } p.dst (.tup [])) = put S p.dst (.tup []) := rfl
          rw [e1] at this
          rw [this]
          congr 1
          exact put_comm (fun k hk => fun e => a2 k e hk)
      · cases h2
    · cases h1
  · cases h1

theorem kill_false (x : X) : x.kill (fun _ => false) = x := kill_id _ x (by simp)
theorem appendX_eq {S S' : St} {dst : Nat} {ts : Array Nat} {x y z : X} (h : appendX T S dst ts x y = some (z, S')) :
    ∃ (q : Nat → Bool) (c : X), z = .hw dst ∧ (∀ k, q k = true → x.refs = [k] ∧ (x = .hw k ∨ ∃ lo len f, x = .hd k lo len f)) ∧ (q dst = true ∨ S.r dst = none) ∧ S' = { t := fun v => (S.t v).kill q, r := upd (fun k => if q k then none else (S.r k).map (X.kill q)) dst (some c) } ∧
      ∀ t' : Nat → X, appendX T { t := t', r := S.r } dst ts x y = some (.hw dst, { t := fun v => (t' v).kill q, r := upd (fun k => if q k then none else (S.r k).map (X.kill q)) dst (some c) }) := by
  have growD : ∀ {g d : Nat} {c : List X} {z : X} {S' : St}, growX (drop S g) dst d c = some (z, S') → z = .hw dst ∧ ((g == dst) = true ∨ S.r dst = none) ∧ S' = { t := fun v => (S.t v).kill (· == g), r := upd (fun k => if k == g then none else (S.r k).map (X.kill (· == g))) dst (some (.ar d c)) } ∧
      ∀ t' : Nat → X, growX (drop { t := t', r := S.r } g) dst d c = some (.hw dst, { t := fun v => (t' v).kill (· == g), r := upd (fun k => if k == g then none else (S.r k).map (X.kill (· == g))) dst (some (.ar d c)) }) := by
    intro g d c z S' h
    unfold growX at h
    split at h
    · rename_i hf
      cases h
      refine ⟨rfl, ?_, rfl, fun t' => ?_⟩
      · have := (freeN_none hf).1
        simp only [drop, dropIf] at this
        split at this
        · rename_i e; exact .inl (by rw [beq_iff_eq] at e ⊢; exact e.symm)
        · exact .inr (by simpa using this)
      · have hf' : freeN nlim (drop { t := t', r := S.r } g).r dst = true := hf
        simp only [growX, hf']
        rfl
    · cases h
  have growN : ∀ {d : Nat} {c : List X} {z : X} {S' : St}, growX S dst d c = some (z, S') → z = .hw dst ∧ S.r dst = none ∧ S' = { t := S.t, r := upd S.r dst (some (.ar d c)) } ∧
      ∀ t' : Nat → X, growX { t := t', r := S.r } dst d c = some (.hw dst, { t := t', r := upd S.r dst (some (.ar d c)) }) := by
    intro d c z S' h
    unfold growX at h
    split at h
    · rename_i hf
      cases h
      refine ⟨rfl, (freeN_none hf).1, rfl, fun t' => ?_⟩
      have hf' : freeN nlim ({ t := t', r := S.r } : St).r dst = true := hf
      simp only [growX, hf']
    · cases h
  unfold appendX at h
  split at h
  · rename_i e _ _ _ ht0
    split at h
    · rename_i ei ys he hm
      split at h
      · rename_i hh
        split at h
        · rename_i g
          split at h
          · rename_i d c hg
            split at h
            · rename_i hh2
              obtain ⟨h1, h2, h3, h4⟩ := growD h
              refine ⟨(· == g), _, h1, fun k hk => ?_, h2.imp (fun e => by rw [beq_iff_eq] at e ⊢; exact e.symm) id, h3, fun t' => ?_⟩
              · have : k = g := by simpa using hk
                subst this
                exact ⟨rfl, .inl rfl⟩
              · simp only [appendX, ht0, he, hm, if_pos hh, hg, if_pos hh2, h4 t']
            · cases h
          · cases h
        · rename_i g lo len f
          split at h
          · rename_i d c hg
            split at h
            · rename_i hh2
              obtain ⟨h1, h2, h3, h4⟩ := growD h
              refine ⟨(· == g), _, h1, fun k hk => ?_, h2.imp (fun e => by rw [beq_iff_eq] at e ⊢; exact e.symm) id, h3, fun t' => ?_⟩
              · have : k = g := by simpa using hk
                subst this
                exact ⟨rfl, .inr ⟨lo, len, f, rfl⟩⟩
              · simp only [appendX, ht0, he, hm, if_pos hh, hg, if_pos hh2, h4 t']
            · cases h
          · cases h
        · rename_i zs
          split at h
          · rename_i hh2
            obtain ⟨h1, h2, h3, h4⟩ := growN h
            refine ⟨fun _ => false, .ar ei.size (zs ++ ys), h1, (fun k hk => by cases hk), .inr h2, ?_, fun t' => ?_⟩
            · rw [h3]
              have e1 : (fun v => (S.t v).kill fun _ => false) = S.t := by funext v; exact kill_false _
              have e2 : (fun k => if (fun _ : Nat => false) k = true then none else (S.r k).map (X.kill fun _ => false)) = S.r := by
                funext k
                simp only [Bool.false_eq_true, if_false]
                cases S.r k with
                | none => rfl
                | some c => simp [kill_false]
              rw [e1, e2]
            · have e1 : (fun v => (t' v).kill fun _ => false) = t' := by funext v; exact kill_false _
              have e2 : (fun k => if (fun _ : Nat => false) k = true then none else (S.r k).map (X.kill fun _ => false)) = S.r := by
                funext k
                simp only [Bool.false_eq_true, if_false]
                cases S.r k with
                | none => rfl
                | some c => simp [kill_false]
              rw [e1, e2]
              simp only [appendX, ht0, he, hm, if_pos hh, if_pos hh2, h4 t']
          · cases h
        · cases h
      · cases h
    · cases h
  · cases h
theorem qD_quiet {x : Oper} {S : St} {v : X} {n : List (Nat × X)} (hmk : mkR T x = false) (h : qD T call an ops S x = some (v, n)) : n = [] := by
  unfold qD at h
  split at h
  · split at h
    · split at h
      · rename_i hm
        simp only [hmk, Bool.false_or, List.isEmpty_iff] at hm
        cases h
        exact hm
      · cases h
    · cases h
  · cases h; rfl
  · cases h
theorem swap_app {x p : Oper} (hap : x.apart ops p = true) (hx : isEff an x.op = false) (hmk : mkR T x = false) {c : Call} (hop : p.op = .call c) (hcal : c.callee = .builtin .append) {S S1 S2 : St} (hcl : Closed S)
    (hf : wantedX ops S p = some true → ∀ g, (p.op.operands.toList.map S.ev).headD .bot = .hw g ∨ (∃ lo len f, (p.op.operands.toList.map S.ev).headD .bot = .hd g lo len f) → g ∉ refsL (x.op.operands.toList.map S.ev) ∧ (∀ d, x.dst = some d → g ∉ (S1.t d).refs) ∧ (readsR x.op = true → ∀ h ∈ refsL (x.op.operands.toList.map S.ev), ∀ cc, S.r h = some cc → g ∉ cc.refs))
    (h1 : stepD T call an ops S x = some S1) (h2 : stepD T call an ops S1 p = some S2) : ∃ S1', stepD T call an ops S p = some S1' ∧ stepD T call an ops S1' x = some S2 := by
  obtain ⟨a1, a2, a3⟩ := Oper.apart_spec hap
  have hp : isEff an p.op = true := by rw [hop]; simp only [isEff, hcal]
  unfold stepD at h1 h2
  rw [hx] at h1
  rw [hp] at h2
  simp only [Bool.false_eq_true, if_false, if_true] at h1 h2
  split at h1
  · rename_i vx nx hqx
    have hnx := qD_quiet hmk hqx
    subst hnx
    simp only [addR, Option.some.injEq] at h1
    subst h1
    have hSr : ({ S with r := S.r } : St) = S := rfl
    rw [hSr] at h2 hf
    obtain ⟨l1, l2⟩ := look_put (ops := ops) (S := S) (r' := S.r) (d := x.dst) (v := vx) (o := p) a1
    rw [hSr] at l1 l2
    rw [l2] at h2
    -- x behind it
    have back : ∀ (t' : Nat → X) (rp : Nat → Option X) (vp : X), (∀ o ∈ x.op.operands.toList, ({ t := t', r := rp } : St).ev o = S.ev o) → wantedX ops { t := t', r := rp } x = wantedX ops S x → (∀ q, opq T call an S.r (dstOf x) x.op (x.op.operands.toList.map S.ev) = some q → opq T call an rp (dstOf x) x.op (x.op.operands.toList.map S.ev) = some q) →
        stepD T call an ops (put { t := t', r := rp } p.dst vp) x = some (put (put { t := t', r := rp } p.dst vp) x.dst vx) := by
      intro t' rp vp he hw ho
      obtain ⟨m1, m2⟩ := look_put (ops := ops) (S := { t := t', r := rp }) (r' := rp) (d := p.dst) (v := vp) (o := x) (fun t ht => a3 t ht)
      have m1' : x.op.operands.toList.map (put { t := t', r := rp } p.dst vp).ev = x.op.operands.toList.map S.ev := by
        rw [m1]; exact List.map_congr_left he
      have m2' : wantedX ops (put { t := t', r := rp } p.dst vp) x = wantedX ops S x := m2.trans hw
      have hqx' : qD T call an ops (put { t := t', r := rp } p.dst vp) x = some (vx, []) := by
        unfold qD at hqx ⊢
        rw [m2', m1', put_r]
        split at hqx
        · rename_i hw
          (try rw [hw])
          split at hqx
          · rename_i z news hz
            rw [ho _ hz]
            exact hqx
          · cases hqx
        · rename_i hw; first | exact hqx | (rw [hw]; exact hqx)
        · cases hqx
      unfold stepD
      rw [hx]
      simp only [Bool.false_eq_true, if_false, hqx', addR]
    split at h2
    · rename_i hw
      have hf' := hf hw
      unfold opStep at h2
      rw [if_pos hp, l1, hop] at h2
      have hco : c.operands = c.args := by simp [Call.operands, hcal]
      simp only [eff, hcal] at h2
      split at h2
      · rename_i z0 S3 hst0
        cases h2
        split at hst0
        · rename_i y1 y2 hyy
          have hst1 : appendX T (put S x.dst vx) (dstOf p) c.argTypes y1 y2 = some (z0, S3) := hst0
          obtain ⟨q, cc, rfl, hq1, hq2, rfl, hq4⟩ := appendX_eq hst1
          rw [put_r] at hq2 hq4
          have hhead : (p.op.operands.toList.map S.ev).headD .bot = y1 := by rw [hop, hyy]; rfl
          have hkq : ∀ k, q k = true → k ∉ refsL (x.op.operands.toList.map S.ev) ∧ (∀ d, x.dst = some d → k ∉ ((put S x.dst vx).t d).refs) ∧ (readsR x.op = true → ∀ h ∈ refsL (x.op.operands.toList.map S.ev), ∀ cc, S.r h = some cc → k ∉ cc.refs) := by
            intro k hk
            refine hf' k ?_
            rw [hhead]
            exact (hq1 k hk).2
          have hstep1 : stepD T call an ops S p = some (put { t := fun v => (S.t v).kill q, r := upd (fun k => if q k then none else (S.r k).map (X.kill q)) (dstOf p) (some cc) } p.dst (.hw (dstOf p))) := by
            unfold stepD
            rw [hp]
            simp only [if_true, hw]
            unfold opStep
            rw [if_pos hp, hop]
            simp only [eff, hcal, hyy]
            have h5 := hq4 S.t
            have h6 : appendX T S (dstOf p) c.argTypes y1 y2 = some (.hw (dstOf p), { t := fun v => (S.t v).kill q, r := upd (fun k => if q k then none else (S.r k).map (X.kill q)) (dstOf p) (some cc) }) := h5
            rw [h6]
          have noany : ∀ l : List Nat, (∀ k ∈ l, q k = false) → l.any q = false := fun l hl => by
            rw [List.any_eq_false]; intro k hk; rw [hl k hk]; simp
          have b1 : ∀ o ∈ x.op.operands.toList, ({ t := fun v => (S.t v).kill q, r := upd (fun k => if q k then none else (S.r k).map (X.kill q)) (dstOf p) (some cc) } : St).ev o = S.ev o := by
            intro o ho
            cases o with
            | tmp t =>
              show (S.t t).kill q = S.t t
              refine kill_id q _ (noany _ fun k hk => ?_)
              cases hqk : q k with
              | false => rfl
              | true =>
                exfalso
                refine (hkq k hqk).1 ?_
                have : ∀ (l : List Operand), Operand.tmp t ∈ l → k ∈ refsL (l.map S.ev) := by
                  intro l
                  induction l with
                  | nil => intro h; simp at h
                  | cons a l ih =>
                    intro h
                    simp only [List.map_cons, refsL, List.mem_append]
                    rcases List.mem_cons.1 h with rfl | h
                    · exact .inl hk
                    · exact .inr (ih h)
                exact this _ ho
            | const v => rfl
            | global g => rfl
            | func f => rfl
          have b2 : wantedX ops { t := fun v => (S.t v).kill q, r := upd (fun k => if q k then none else (S.r k).map (X.kill q)) (dstOf p) (some cc) } x = wantedX ops S x := by
            unfold wantedX
            cases hg : x.guard with
            | none => rfl
            | some jw =>
              obtain ⟨j, want⟩ := jw
              simp only
              cases hj : (ops[j]?).bind (·.dst) with
              | none => rfl
              | some e =>
                simp only
                have wv : ∀ y : X, (match y.kill q with | .b v => some (v == want) | .tup [] => some false | _ => none) = (match y with | .b v => some (v == want) | .tup [] => some false | _ => none) := by
                  intro y
                  cases y with
                  | tup xs => cases xs <;> rfl
                  | hw k => simp only [X.kill]; by_cases hqk : q k = true <;> simp [hqk]
                  | hd k lo len f => simp only [X.kill]; by_cases hqk : q k = true <;> simp [hqk]
                  | pt k o pp => simp only [X.kill]; by_cases hqk : q k = true <;> simp [hqk]
                  | fn f cp => simp only [X.kill]; by_cases hqk : (refsL cp).any q = true <;> simp [hqk]
                  | _ => rfl
                exact wv (S.t e)
          have b3 : ∀ w, opq T call an S.r (dstOf x) x.op (x.op.operands.toList.map S.ev) = some w → opq T call an (upd (fun k => if q k then none else (S.r k).map (X.kill q)) (dstOf p) (some cc)) (dstOf x) x.op (x.op.operands.toList.map S.ev) = some w := by
            intro w hw'
            cases hrd : readsR x.op with
            | false => rw [← opq_nr (r := S.r) hrd]; exact hw'
            | true =>
              refine opq_sub (fun k hk ck hck => ?_) hw'
              have hkn : q k = false := by
                cases hqk : q k with
                | false => rfl
                | true => exact absurd hk (hkq k hqk).1
              have hkd : k ≠ dstOf p := by
                intro e
                rcases hq2 with h8 | h8
                · rw [← e, hkn] at h8; cases h8
                · rw [← e, hck] at h8; cases h8
              simp only [upd, hkd, if_false, hkn, Bool.false_eq_true, hck, Option.map_some]
              congr 1
              refine kill_id q ck (noany _ fun m hm => ?_)
              cases hqm : q m with
              | false => rfl
              | true => exact absurd hm ((hkq m hqm).2.2 hrd k hk ck hck)
          refine ⟨_, hstep1, ?_⟩
          rw [back (fun v => (S.t v).kill q) _ (.hw (dstOf p)) b1 b2 b3]
          congr 1
          rw [put_comm (fun k hk => fun e => a2 k e hk)]
          congr 1
          rw [put_r]
          have et : (fun v => ((put S x.dst vx).t v).kill q) = (put { t := fun v => (S.t v).kill q, r := S.r } x.dst vx).t := by
            funext v
            cases hxd : x.dst with
            | none => rfl
            | some d =>
              simp only [put, upd]
              split
              · rename_i e
                refine kill_id q vx (noany _ fun k hk => ?_)
                cases hqk : q k with
                | false => rfl
                | true =>
                  have h7 := (hkq k hqk).2.1 d hxd
                  rw [hxd] at h7
                  simp only [put, upd, if_pos] at h7
                  exact absurd hk h7
              · rfl
          rw [et]
          cases x.dst <;> rfl
        · cases hst0
      · cases h2
    · rename_i hw
      cases h2
      refine ⟨put S p.dst (.tup []), ?_, ?_⟩
      · unfold stepD
        rw [hp]
        simp only [if_true, hw]
      · have := back S.t S.r (.tup []) (fun _ _ => rfl) rfl (fun q hq => hq)
        have e1 : (put { t := S.t, r := S.r } p.dst (.tup [])) = put S p.dst (.tup []) := rfl
        rw [e1] at this
        rw [this]
        congr 1
        exact put_comm (fun k hk => fun e => a2 k e hk)
    · cases h2
  · cases h1

def overB (ops : Array Oper) (x y : Nat) : Bool :=
  match ops[x]?, ops[y]? with
  | some ox, some oy => (match oy.dst with
    | some d => !(ox.looksAt ops).contains d
    | none => true) && (x == y || (match ox.dst, oy.dst with
      | some a, some b => a != b
      | _, _ => true))
  | _, _ => true
/-- Where the i-th operation stands behind those of pre. -/
def pairsB (ops : Array Oper) (dep : List (List Nat)) (i : Nat) : List Nat → Bool
  | [] => true
  | x :: l => ((dep.getD i []).contains x || (x :: l).all fun y => (dep.getD i []).contains y || overB ops x y) && pairsB ops dep i l
def depOk (T : TT) (an : FuncId → An) (ops : Array Oper) (dep : List (List Nat)) (pre : List Nat) (i : Nat) : Bool :=
  match ops[i]? with
  | some o => (direct o).all (fun j => pre.contains j) && (dep.getD i []).all (fun j => (direct o).contains j || (direct o).any fun m => (dep.getD m []).contains j) &&
      (pre.all fun x => (dep.getD i []).contains x || (match ops[x]? with | some ox => swapOk T an ops ox o && !dirs o x | none => false)) &&
      (!isLoose o.op || pairsB ops dep i pre)
  | none => false
def ordChk (T : TT) (an : FuncId → An) (ops : Array Oper) (dep : List (List Nat)) : List Nat → List Nat → Bool
  | _, [] => true
  | pre, i :: l => depOk T an ops dep pre i && !pre.contains i && decide (i < ops.size) && ordChk T an ops dep (pre ++ [i]) l
def drawChk (T : TT) (an : FuncId → An) (ops : Array Oper) : Bool := ((List.range ops.size).all fun i => (ordOf ops).contains i) && ordChk T an ops (clos ops.toList []) [] (ordOf ops)
def Over (ops : Array Oper) (x y : Oper) : Prop := ∀ d, y.dst = some d → d ∉ x.looksAt ops
/-- .. and they write different slots. -/
def Over2 (ops : Array Oper) (x y : Oper) : Prop := Over ops x y ∧ ∀ d, x.dst = some d → y.dst ≠ some d
theorem stepD_t {x : Oper} (hx : isEff an x.op = false) {S S1 : St} (h : stepD T call an ops S x = some S1) : ∀ u, x.dst ≠ some u → S1.t u = S.t u := by
  unfold stepD at h
  rw [hx] at h
  simp only [Bool.false_eq_true, if_false] at h
  split at h
  · split at h
    · cases h
      intro u hu
      cases hd : x.dst with
      | none => rfl
      | some d =>
        have : u ≠ d := fun e => hu (by rw [hd, e])
        simp [put, upd, this]
    · cases h
  · cases h
theorem ev_of_t {S S' : St} {o : Oper} (h : ∀ u ∈ o.looksAt ops, S'.t u = S.t u) : (∀ x ∈ o.op.operands.toList, S'.ev x = S.ev x) ∧ wantedX ops S' o = wantedX ops S o := by
  constructor
  · intro x hx
    cases x with
    | tmp t => exact h t (operand_looks hx)
    | const c => rfl
    | global g => rfl
    | func f => rfl
  · unfold wantedX
    cases hg : o.guard with
    | none => rfl
    | some jw =>
      obtain ⟨j, want⟩ := jw
      simp only
      cases hj : (ops[j]?).bind (·.dst) with
      | none => rfl
      | some e =>
        simp only
        have hl : e ∈ o.looksAt ops := by
          unfold Oper.looksAt
          refine List.mem_append.2 (.inr ?_)
          rw [hg]; simp [hj]
        rw [h e hl]
theorem bubble {Lv : St → Prop} (hL1 : ∀ S, Lv S → Closed S) (hL2 : ∀ S S1 x, x ∈ ops.toList → Lv S → stepD T call an ops S x = some S1 → Lv S1) {i : Oper} {l2 : List Oper} {S' : St} : ∀ {l1 : List Oper} {S : St}, (∀ x ∈ l1, swapOk T an ops x i = true ∧ x ∈ ops.toList ∧ ∃ j, ops[j]? = some x ∧ dirs i j = false) →
    (isLoose i.op = true → (∀ x ∈ l1, Over ops x x) ∧ l1.Pairwise (Over2 ops)) → Lv S → runD T call an ops (l1 ++ i :: l2) S = some S' →
    ∃ Se S1, chkS ops Se i = true ∧ (∀ u, (∀ x ∈ l1, x.dst ≠ some u) → Se.t u = S.t u) ∧ (∀ g c, S.r g = some c → Se.r g = some c) ∧ stepD T call an ops S i = some S1 ∧ runD T call an ops (l1 ++ l2) S1 = some S'
  | [], S, _, _, _, h => by
    simp only [List.nil_append, runD] at h
    split at h
    · rename_i hchk
      split at h
      · rename_i S1 h1; exact ⟨S, S1, hchk, fun _ _ => rfl, fun _ _ h => h, h1, h⟩
      · cases h
    · cases h
  | x :: l1, S, hs, hov, hlv, h => by
    simp only [List.cons_append, runD] at h
    split at h
    · rename_i hchk
      split at h
      · rename_i Sx hx
        obtain ⟨hsw, hxm, jx, hjx, hdx⟩ := hs x (by simp)
        obtain ⟨Se, S2, hc, ht, hr, h2, h3⟩ := bubble hL1 hL2 (fun y hy => hs y (by simp [hy])) (fun hst => ⟨fun y hy => (hov hst).1 y (by simp [hy]), (List.pairwise_cons.1 (hov hst).2).2⟩) (hL2 S Sx x hxm hlv hx) h
        simp only [swapOk, Bool.and_eq_true, Bool.not_eq_true', Bool.or_eq_true] at hsw
        obtain ⟨⟨hap, hxe⟩, hpe⟩ := hsw
        obtain ⟨a1, a2, a3⟩ := Oper.apart_spec hap
        have hxt := stepD_t hxe hx
        have hxr : ∀ g c, S.r g = some c → Sx.r g = some c := by
          intro g c hg
          unfold stepD at hx
          rw [hxe] at hx
          simp only [Bool.false_eq_true, if_false] at hx
          split at hx
          · split at hx
            · rename_i r1 hr1
              cases hx
              rw [put_r]
              exact addR_sub hr1 g c hg
            · cases hx
          · cases hx
        have key : ∃ S1, stepD T call an ops S i = some S1 ∧ stepD T call an ops S1 x = some S2 := by
          cases hie : isEff an i.op with
          | false => exact swap_quiet hap hxe hie (hL1 S hlv) hx h2
          | true =>
            have hlo : isLoose i.op = true := by
              rw [hie] at hpe
              simp only [Bool.true_eq_false, false_or] at hpe
              unfold isLoose
              rcases hpe with hpe | hpe
              · simp [hpe]
              · simp [hpe.1]
            obtain ⟨o1, o2⟩ := hov hlo
            have hnotin : ∀ w ∈ i.looksAt ops, ∀ x' ∈ x :: l1, x'.dst ≠ some w := by
              intro w hw x' hx' hd
              have hsw' := (hs x' hx').1
              simp only [swapOk, Bool.and_eq_true] at hsw'
              exact (Oper.apart_spec hsw'.1.1).1 w hd hw
            have hiS : ∀ u ∈ i.looksAt ops, Se.t u = S.t u := fun u hu => (ht u fun x' hx' => hnotin u hu x' (by simp [hx'])).trans (hxt u (hnotin u hu x (by simp)))
            have hxS : ∀ u ∈ x.looksAt ops, Se.t u = S.t u := fun u hu => (ht u fun x' hx' hd => ((List.pairwise_cons.1 o2).1 x' hx').1 u hd hu).trans (hxt u fun hd => o1 x (by simp) u hd hu)
            obtain ⟨i1, i2⟩ := ev_of_t (o := i) hiS
            obtain ⟨x1, _⟩ := ev_of_t (o := x) hxS
            have hjl := (Array.getElem?_eq_some_iff.1 hjx).1
            cases hst : isStore i.op with
            | true =>
              cases hop : i.op <;> rw [hop] at hst <;> simp only [isStore, Bool.false_eq_true] at hst
              rename_i t y z
              refine swap_store hap hxe hop (hL1 S hlv) (fun hw => ?_) hx h2
              unfold chkS at hc
              rw [hop] at hc
              simp only [i2, hw] at hc
              have ey : Se.ev y = S.ev y := i1 y (by rw [hop]; simp [Op.operands])
              have ez : Se.ev z = S.ev z := i1 z (by rw [hop]; simp [Op.operands])
              rw [ey, ez] at hc
              split at hc
              · rename_i g off path hy
                simp only [Bool.and_eq_true] at hc
                obtain ⟨hc1, hc2⟩ := hc
                split at hc1
                · rename_i c hgc
                  have hgn : S.r g ≠ none := (hL1 S hlv).ev y g (by rw [hy]; simp [X.refs])
                  have hgS : Sx.r g = some c := by
                    cases hgs : S.r g with
                    | none => exact absurd hgs hgn
                    | some c0 =>
                      have h1 := hxr g c0 hgs
                      have h2 := hr g c0 h1
                      rw [hgc] at h2; cases h2; exact h1
                  refine ⟨g, off, path, c, hy, hgS, ?_, fun hrd hg => ?_⟩
                  · simp only [Bool.or_eq_true, Bool.not_eq_true', List.isEmpty_iff] at hc1
                    exact hc1
                  · have h7 := List.all_eq_true.1 hc2 jx (by simpa using hjl)
                    rw [hjx] at h7
                    simp only [hrd, hdx, Bool.not_true, Bool.false_or, Bool.or_false, Bool.not_eq_true', List.contains_eq_mem, decide_eq_false_iff_not] at h7
                    exact h7 (by rw [List.map_congr_left x1]; exact hg)
                · cases hc1
              · cases hc
            | false =>
              rw [hie, hst] at hpe
              simp only [Bool.true_eq_false, Bool.false_eq_true, false_or] at hpe
              obtain ⟨hia, hmk⟩ := hpe
              unfold isApp at hia
              split at hia
              · rename_i c hop
                split at hia
                · rename_i hcal
                  refine swap_app hap hxe hmk hop hcal (hL1 S hlv) (fun hw g hg => ?_) hx h2
                  have hmap : i.op.operands.toList.map Se.ev = i.op.operands.toList.map S.ev := List.map_congr_left i1
                  have hcx : clearX Se g x = true := by
                    unfold chkS at hc
                    rw [hop] at hc
                    simp only [hcal, i2, hw] at hc
                    rw [← hop, hmap] at hc
                    have pick : ∀ (_ : ((List.range ops.size).all fun j => match ops[j]? with | some x => dirs i j || sameDst x i || clearX Se g x | none => true) = true), clearX Se g x = true := by
                      intro hall
                      have h7 := List.all_eq_true.1 hall jx (by simpa using hjl)
                      rw [hjx] at h7
                      simp only [hdx, Bool.false_or, Bool.or_eq_true] at h7
                      rcases h7 with h7 | h7
                      · exfalso
                        unfold sameDst at h7
                        split at h7
                        · rename_i a b ha hb
                          simp only [beq_iff_eq] at h7
                          exact a2 a ha (by rw [hb, h7])
                        · cases h7
                      · exact h7
                    rcases hg with hg | ⟨lo, len, f, hg⟩
                    · rw [hg] at hc; exact pick hc
                    · rw [hg] at hc; exact pick hc
                  unfold clearX at hcx
                  rw [List.map_congr_left x1] at hcx
                  simp only [Bool.and_eq_true, Bool.not_eq_true', Bool.or_eq_true, List.contains_eq_mem, decide_eq_false_iff_not] at hcx
                  obtain ⟨⟨c1, c2⟩, c3⟩ := hcx
                  refine ⟨c1, fun d hd => ?_, fun hrd k hk cc hcc => ?_⟩
                  · rw [hd] at c2
                    simp only [Bool.not_eq_true', List.contains_eq_mem, decide_eq_false_iff_not] at c2
                    have hds : Se.t d = Sx.t d := ht d fun x' hx' hd' => ((List.pairwise_cons.1 o2).1 x' hx').2 d hd hd'
                    rw [← hds]; exact c2
                  · rcases c3 with c3 | c3
                    · rw [hrd] at c3; cases c3
                    · have h8 := List.all_eq_true.1 c3 k hk
                      rw [hr k cc (hxr k cc hcc)] at h8
                      simpa using h8
                · cases hia
              · cases hia
        obtain ⟨S1, k1, k2⟩ := key
        refine ⟨Se, S1, hc, fun u hu => (ht u fun x' hx' => hu x' (by simp [hx'])).trans (hxt u (hu x (by simp))), fun g c hg => hr g c (hxr g c hg), k1, ?_⟩
        have hcx : chkS ops S1 x = true := by
          unfold chkS
          cases hxo : x.op <;> simp only
          · rw [hxo] at hxe
            simp [isEff] at hxe
          · rename_i c
            cases hcal : c.callee with
            | builtin b =>
              cases b <;> simp only
              rw [hxo] at hxe
              simp [isEff, hcal] at hxe
            | _ => rfl
        simp only [List.cons_append, runD, hcx, if_true, k2]
        exact h3
      · cases h
    · cases h
/-- What is left. -/
def left (ord : List Nat) (L : Array Bool) : List Nat := ord.filter fun i => !L.getD i true
theorem left_set {n i : Nat} {ord : List Nat} {L : Array Bool} (hL : L.size = n) (hi : i < n) : left ord (L.setIfInBounds i true) = (left ord L).filter (· != i) := by
  unfold left
  rw [List.filter_filter]
  refine List.filter_congr fun j hj => ?_
  by_cases e : j = i
  · subst e; simp [Array.getD_eq_getD_getElem?, hL, hi]
  · have : (L.setIfInBounds i true).getD j true = L.getD j true := by simp [Array.getD_eq_getD_getElem?, Array.getElem?_setIfInBounds, Ne.symm e]
    rw [this]; simp [e]
theorem filter_split {f : Nat → Bool} {i : Nat} : ∀ {l l1 l2 : List Nat}, l.filter f = l1 ++ i :: l2 → ∃ p q, l = p ++ i :: q ∧ p.filter f = l1 ∧ q.filter f = l2
  | [], l1, l2, h => by simp at h
  | a :: l, l1, l2, h => by
    rw [List.filter_cons] at h
    split at h
    · cases l1 with
      | nil =>
        simp only [List.nil_append, List.cons.injEq] at h
        obtain ⟨rfl, h⟩ := h
        exact ⟨[], l, rfl, rfl, h⟩
      | cons b l1 =>
        simp only [List.cons_append, List.cons.injEq] at h
        obtain ⟨rfl, h⟩ := h
        obtain ⟨p, q, rfl, h1, h2⟩ := filter_split h
        rename_i ha
        exact ⟨a :: p, q, rfl, by rw [List.filter_cons, if_pos ha, h1], h2⟩
    · rename_i ha
      obtain ⟨p, q, rfl, h1, h2⟩ := filter_split h
      exact ⟨a :: p, q, rfl, by rw [List.filter_cons, if_neg ha, h1], h2⟩
theorem filter_ne {i : Nat} : ∀ {l1 l2 : List Nat}, (l1 ++ i :: l2).Nodup → (l1 ++ i :: l2).filter (· != i) = l1 ++ l2 := by
  intro l1 l2 h
  have h1 : i ∉ l1 := fun hm => (List.nodup_append.1 h).2.2 i hm i (by simp) rfl
  have h2 : i ∉ l2 := (List.nodup_cons.1 (List.nodup_append.1 h).2.1).1
  rw [List.filter_append, List.filter_cons]
  simp only [bne_self_eq_false, Bool.false_eq_true, if_false]
  rw [List.filter_eq_self.2 (fun a ha => by simp; intro e; subst e; exact h1 ha), List.filter_eq_self.2 (fun a ha => by simp; intro e; subst e; exact h2 ha)]
end
section
variable {P : Program} {T : TT} {w0 : World} {F0 : Nat → Prop} {Pb : PB} {N : Nat} {call : FuncId → List X → Option (X × List X)} {an : FuncId → An} {ops : Array Oper} {Q : Exit → Act → World → Prop} {S' : St}
mutual
theorem rc_refs {F : Nat → Prop} {A : Nat → Option RA} {w : World} : ∀ {x : X} {cs : List Value}, Rc w F A x cs → ∀ g ∈ x.refs, ∃ ra, A g = some ra
  | .ag xs, cs, h, g, hg => by simp only [Rc] at h; exact rcL_refs h g (by simpa only [X.refs] using hg)
  | .hw k, cs, h, g, hg => by simp only [Rc] at h; obtain ⟨ra, a, c, hA, _⟩ := h; simp [X.refs] at hg; subst hg; exact ⟨ra, hA⟩
  | .hd k lo len f, cs, h, g, hg => by simp only [Rc] at h; obtain ⟨ra, a, c, hA, _⟩ := h; simp [X.refs] at hg; subst hg; exact ⟨ra, hA⟩
  | .pt k o p, cs, h, g, hg => by simp only [Rc] at h; obtain ⟨ra, hA, _⟩ := h; simp [X.refs] at hg; subst hg; exact ⟨ra, hA⟩
  | .fn f cap, cs, h, g, hg => by simp only [Rc] at h; obtain ⟨c, h1, _⟩ := h; exact rcL_refs h1 g (by simpa only [X.refs] using hg)
  | .tup xs, cs, h, g, hg => by simp [Rc] at h
  | .b v, cs, h, g, hg | .i k n, cs, h, g, hg | .s l, cs, h, g, hg | .ar d xs, cs, h, g, hg | .sl f xs, cs, h, g, hg | .np, cs, h, g, hg | .pf x, cs, h, g, hg | .nm, cs, h, g, hg | .nf, cs, h, g, hg | .bot, cs, h, g, hg | .ow _ _, cs, h, g, hg | .ob _, cs, h, g, hg => by simp [X.refs] at hg
theorem rcL_refs {F : Nat → Prop} {A : Nat → Option RA} {w : World} : ∀ {xs : List X} {cs : List Value}, RcL w F A xs cs → ∀ g ∈ refsL xs, ∃ ra, A g = some ra
  | [], cs, h, g, hg => by simp [refsL] at hg
  | x :: xs, cs, h, g, hg => by
    simp only [RcL] at h
    obtain ⟨c1, c2, rfl, h1, h2⟩ := h
    simp only [refsL, List.mem_append] at hg
    rcases hg with hg | hg
    · exact rc_refs h1 g hg
    · exact rcL_refs h2 g hg
end
theorem rvL_refs {F : Nat → Prop} {A : Nat → Option RA} {w : World} : ∀ {xs : List X} {vs : List Value}, RvL w F A xs vs → ∀ g ∈ refsL xs, ∃ ra, A g = some ra
  | [], vs, h, g, hg => by simp [refsL] at hg
  | x :: xs, [], h, g, hg => by simp [RvL] at h
  | x :: xs, v :: vs, h, g, hg => by
    simp only [RvL] at h
    simp only [refsL, List.mem_append] at hg
    rcases hg with hg | hg
    · rcases h.1 with rfl | ⟨cs, h1, _⟩
      · simp [X.refs] at hg
      · exact rc_refs h1 g hg
    · exact rvL_refs h.2 g hg
theorem rv_refs {F : Nat → Prop} {A : Nat → Option RA} {w : World} {x : X} {v : Value} (h : Rv w F A x v) (g : Nat) (hg : g ∈ x.refs) : ∃ ra, A g = some ra := by
  cases x with
  | bot => simp [X.refs] at hg
  | tup xs =>
    obtain ⟨vs, _, h1⟩ := h
    exact rvL_refs h1 g (by simpa only [X.refs] using hg)
  | _ => obtain ⟨cs, h1, _⟩ := h; exact rc_refs h1 g hg
theorem Inv.closed {F : Nat → Prop} {A : Nat → Option RA} {S : St} {tm : Nat → Value} {w : World} (h : Inv w0 F0 Pb F A S tm w) : Closed S := by
  intro v g hg hn
  have hr := rv_refs (h.tv v) g hg
  obtain ⟨ra, hA⟩ := hr
  obtain ⟨x, hx⟩ := h.lv g ra hA
  rw [hn] at hx; cases hx
theorem wp_const {o : Oper} {a : Act} {w : World} {C : Act → World → Prop} (h : o.wp P a w C (fun _ _ _ => False)) : ∃ a' w', C a' w' := by
  unfold Oper.wp at h
  generalize (execOp a.eval o).run P w = r at h
  unfold Oper.upon at h
  split at h
  · exact ⟨_, _, h⟩
  · exact ⟨_, _, h⟩
  · exact ⟨_, _, h⟩
  · obtain ⟨e, w', fr, hR, _⟩ := h []
    split at hR
    · exact ⟨_, _, hR⟩
    · exact hR.elim
    · obtain ⟨_, _, hf⟩ := hR; exact hf.elim
  · rename_i row args w' 
    obtain ⟨v, w'', hR, _⟩ := h (Frame.ofRow P row args .normal) []
    exact ⟨_, _, hR⟩
  · exact h.elim
  · exact h.elim
theorem stepD_split {o : Oper} {S S1 : St} (hs : stepD T call an ops S o = some S1) : (opStep T call an S o = some S1 ∧ wantedX ops S o = some true) ∨ (S1 = put S o.dst (.tup []) ∧ wantedX ops S o = some false) := by
  unfold stepD at hs
  split at hs
  · split at hs
    · rename_i hw; exact .inl ⟨hs, hw⟩
    · rename_i hw; cases hs; exact .inr ⟨rfl, hw⟩
    · cases hs
  · rename_i heff
    split at hs
    · rename_i x news hq
      split at hs
      · rename_i r' hr
        cases hs
        unfold qD at hq
        split at hq
        · rename_i hw
          split at hq
          · rename_i z nz hz
            split at hq
            · simp only [Option.some.injEq, Prod.mk.injEq] at hq
              obtain ⟨rfl, rfl⟩ := hq
              refine .inl ⟨?_, hw⟩
              unfold opStep
              rw [if_neg heff]
              simp only [hz, EV.freezeL, hr]
            · cases hq
          · cases hq
        · rename_i hw
          simp only [Option.some.injEq, Prod.mk.injEq] at hq
          obtain ⟨rfl, rfl⟩ := hq
          simp only [addR, Option.some.injEq] at hr
          subst hr
          exact .inr ⟨rfl, hw⟩
        · cases hq
      · cases hs
    · cases hs
theorem stepD_live (hT : TOk P T) (hS : ShOk T) (hc : CallOk P call) {o : Oper} (hd : okDst N o = true) {S S1 : St} (hs : stepD T call an ops S o = some S1) {a : Act} {w : World} (h : InvA w0 F0 Pb N S a w) : ∃ a w, InvA w0 F0 Pb N S1 a w := by
  rcases stepD_split hs with ⟨h1, _⟩ | ⟨rfl, hw⟩
  · exact wp_const (opStep_ok hT hS hc (okDst_lt hd) h1 h _)
  · obtain ⟨h1, h2, F, A, hI⟩ := h
    exact ⟨_, _, put_ok (x := .tup []) (v := undef) hI ⟨[], rfl, by simp [RvL]⟩ h1 h2 (okDst_lt hd)⟩
theorem stepD_ok (hT : TOk P T) (hS : ShOk T) (hc : CallOk P call) {i : Nat} {o : Oper} (ho : ops[i]? = some o) (hd : okDst N o = true) {S S1 : St} (hs : stepD T call an ops S o = some S1) {a : Act} {w : World} (h : InvA w0 F0 Pb N S a w) {K : Act → World → Prop} (hK : ∀ a w, InvA w0 F0 Pb N S1 a w → K a w) : wpOp P ops Q i K a w := by
  unfold wpOp
  simp only [ho]
  have skip : ∀ {S1 : St}, some (put S o.dst (.tup [])) = some S1 → wantedX ops S o = some false → (∀ a w, InvA w0 F0 Pb N S1 a w → K a w) → (if Region.wanted o (yielded ops a.tmps) = true then o.wp P a w K Q ∨ (o.asks P a w ∧ LetsOut Q) else K (a.put o.dst undef) w) := by
    intro S1 he hw hK
    cases he
    rw [if_neg (by rw [wantedX_ok h hw]; simp)]
    obtain ⟨h1, h2, F, A, hI⟩ := h
    exact hK _ _ (put_ok (x := .tup []) hI ⟨[], rfl, by simp [RvL]⟩ h1 h2 (okDst_lt hd))
  have go : opStep T call an S o = some S1 → wantedX ops S o = some true → (if Region.wanted o (yielded ops a.tmps) = true then o.wp P a w K Q ∨ (o.asks P a w ∧ LetsOut Q) else K (a.put o.dst undef) w) := by
    intro he hw
    rw [if_pos (wantedX_ok h hw)]
    exact .inl (upon_mono (opStep_ok hT hS hc (okDst_lt hd) he h Q) hK)
  unfold stepD at hs
  split at hs
  · split at hs
    · rename_i hw; exact go hs hw
    · rename_i hw; exact skip hs hw hK
    · cases hs
  · rename_i heff
    split at hs
    · rename_i x news hq
      split at hs
      · rename_i r' hr
        cases hs
        unfold qD at hq
        split at hq
        · rename_i hw
          split at hq
          · rename_i z nz hz
            split at hq
            · simp only [Option.some.injEq, Prod.mk.injEq] at hq
              obtain ⟨rfl, rfl⟩ := hq
              refine go ?_ hw
              unfold opStep
              rw [if_neg heff]
              simp only [hz, EV.freezeL, hr]
            · cases hq
          · cases hq
        · rename_i hw
          simp only [Option.some.injEq, Prod.mk.injEq] at hq
          obtain ⟨rfl, rfl⟩ := hq
          simp only [addR, Option.some.injEq] at hr
          subst hr
          exact skip rfl hw hK
        · cases hq
      · cases hs
    · cases hs
theorem any_ok (hT : TOk P T) (hS : ShOk T) (hc : CallOk P call) (ho : ∀ o ∈ ops.toList, okDst N o = true) {dep : List (List Nat)} {ord : List Nat} (hnd0 : ord.Nodup) (hmem : ∀ i, i ∈ ord ↔ i < ops.size) (hdep : ∀ p i q, ord = p ++ i :: q → depOk T an ops dep p i = true) (hQ : ∀ a w, InvA w0 F0 Pb N S' a w → Q .normal a w) :
    ∀ (fuel : Nat) (L : Array Bool) {S : St} {a : Act} {w : World}, L.size = ops.size → (left ord L).length ≤ fuel → (∀ i, i < ops.size → L.getD i true = true → ∀ j ∈ dep.getD i [], L.getD j false = true) → runD T call an ops ((left ord L).filterMap (ops[·]?)) S = some S' → InvA w0 F0 Pb N S a w →
      wpAny P .any ops Q fuel L a w := by
  have doneOf : ∀ (L : Array Bool), L.size = ops.size → ∀ j, j < ops.size → j ∉ left ord L → L.getD j false = true := by
    intro L hL j hjn hnot
    have : ¬ (!L.getD j true) = true := fun h => hnot (List.mem_filter.2 ⟨(hmem j).2 hjn, h⟩)
    simp only [Array.getD_eq_getD_getElem?] at this ⊢
    have hjl : j < L.size := by omega
    simp [hjl] at this ⊢
    exact this
  -- nothing is ready: nothing is left
  have none_ready : ∀ (L : Array Bool), L.size = ops.size → Region.ready .any ops L = [] → left ord L = [] := by
    intro L hL hr
    cases hl : left ord L with
    | nil => rfl
    | cons i l =>
      exfalso
      have hi : i ∈ left ord L := by rw [hl]; simp
      have hi2 := List.mem_filter.1 hi
      have hlt : i < ops.size := (hmem i).1 hi2.1
      obtain ⟨p, q, hpq, hp, hq⟩ := filter_split (l1 := []) (show ord.filter (fun i => !L.getD i true) = [] ++ i :: l from hl)
      have hmin : ∀ j, j ∈ p → L.getD j false = true := by
        intro j hj
        have hjn : j < ops.size := (hmem j).1 (by rw [hpq]; simp [hj])
        refine doneOf L hL j hjn fun hm => ?_
        have hf := (List.mem_filter.1 hm).2
        have : j ∈ p.filter (fun i => !L.getD i true) := List.mem_filter.2 ⟨hj, hf⟩
        rw [hp] at this
        simp at this
      have hd := hdep p i q hpq
      unfold depOk at hd
      have hoi : ops[i]? = some ops[i] := by simp [hlt]
      simp only [hoi, Bool.and_eq_true, List.all_eq_true, decide_eq_true_eq] at hd
      have : i ∈ Region.ready .any ops L := by
        unfold Region.ready
        refine List.mem_filter.2 ⟨by simpa using hlt, ?_⟩
        rw [hoi]
        simp only [Option.map_some, Option.getD_some, Bool.and_eq_true]
        refine ⟨hi2.2, ?_⟩
        rw [Array.all_eq_true']
        intro e he
        cases hb : Region.binds .any e with
        | false => simp
        | true =>
          simp only [Bool.not_true, Bool.false_or]
          exact hmin e.on (by simpa using hd.1.1.1 e.on (List.mem_map.2 ⟨e, List.mem_filter.2 ⟨by simpa using he, hb⟩, rfl⟩))
      rw [hr] at this
      simp at this
  intro fuel
  induction fuel with
  | zero =>
    intro L S a w hL hlen _ hr h
    have hl : left ord L = [] := List.eq_nil_of_length_eq_zero (by omega)
    rw [hl] at hr
    simp only [List.filterMap_nil, runD, Option.some.injEq] at hr
    subst hr
    refine ⟨?_, hQ a w h⟩
    cases hrd : Region.ready .any ops L with
    | nil => rfl
    | cons i l =>
      exfalso
      have : i ∈ Region.ready .any ops L := by rw [hrd]; simp
      unfold Region.ready at this
      have h2 := List.mem_filter.1 this
      simp only [Bool.and_eq_true] at h2
      have : i ∈ left ord L := List.mem_filter.2 ⟨(hmem i).2 (by simpa using h2.1), h2.2.1⟩
      rw [hl] at this; simp at this
  | succ fuel ih =>
    intro L S a w hL hlen hclosed hr h
    refine ⟨fun hnr => ?_, fun i hi => ?_⟩
    · rw [none_ready L hL hnr] at hr
      simp only [List.filterMap_nil, runD, Option.some.injEq] at hr
      subst hr
      exact hQ a w h
    · unfold Region.ready at hi
      have h2 := List.mem_filter.1 hi
      simp only [Bool.and_eq_true] at h2
      have hlt : i < ops.size := by simpa using h2.1
      have hoi : ops[i]? = some ops[i] := by simp [hlt]
      rw [hoi] at h2
      simp only [Option.map_some, Option.getD_some] at h2
      have hil : i ∈ left ord L := List.mem_filter.2 ⟨(hmem i).2 hlt, h2.2.1⟩
      obtain ⟨l1, l2, hsplit⟩ := List.append_of_mem hil
      obtain ⟨pp, qq, hpq, hp1, hq1⟩ := filter_split (show ord.filter (fun i => !L.getD i true) = l1 ++ i :: l2 from hsplit)
      have hd := hdep pp i qq hpq
      unfold depOk at hd
      simp only [hoi, Bool.and_eq_true, List.all_eq_true, decide_eq_true_eq, Bool.or_eq_true] at hd
      have hdirect : ∀ j ∈ direct ops[i], L.getD j false = true := by
        intro j hj
        obtain ⟨e, he, rfl⟩ := List.mem_map.1 hj
        have he2 := List.mem_filter.1 he
        have := (Array.all_eq_true'.1 h2.2.2) e (by simpa using he2.1)
        rw [he2.2] at this
        simpa using this
      have getDs : ∀ j, L.getD j false = true → j < ops.size ∧ L.getD j true = true := by
        intro j hj
        simp only [Array.getD_eq_getD_getElem?] at hj ⊢
        cases hq : L[j]? with
        | none => rw [hq] at hj; simp at hj
        | some b =>
          have := (Array.getElem?_eq_some_iff.1 hq).1
          rw [hq] at hj
          exact ⟨by omega, by simpa using hj⟩
      have hdepl : ∀ j ∈ dep.getD i [], L.getD j false = true := by
        intro j hj
        rcases hd.1.1.2 j hj with h3 | h3
        · exact hdirect j (by simpa using h3)
        · obtain ⟨m, hm, hjm⟩ := List.any_eq_true.1 h3
          obtain ⟨q1, q2⟩ := getDs m (hdirect m hm)
          exact hclosed m q1 q2 j (by simpa using hjm)
      have hnd : (left ord L).Nodup := List.Pairwise.filter _ hnd0
      rw [hsplit] at hnd
      have hnodep : ∀ x ∈ l1, x ∈ pp ∧ ¬ (dep.getD i []).contains x = true := by
        intro x hx
        have hxi : x ∈ pp := by rw [← hp1] at hx; exact (List.mem_filter.1 hx).1
        have hxl : x ∈ left ord L := by rw [hsplit]; simp [hx]
        have hxn := (List.mem_filter.1 hxl).2
        refine ⟨hxi, fun h5 => ?_⟩
        have := (getDs x (hdepl x (by simpa using h5))).2
        rw [this] at hxn; simp at hxn
      have hsw : ∀ x ∈ l1.filterMap (ops[·]?), swapOk T an ops x ops[i] = true ∧ x ∈ ops.toList ∧ ∃ j, ops[j]? = some x ∧ dirs ops[i] j = false := by
        intro ox hox
        obtain ⟨x, hx, hxo⟩ := List.mem_filterMap.1 hox
        obtain ⟨hxi, hnd⟩ := hnodep x hx
        have h5 := hd.1.2 x hxi
        rw [hxo] at h5
        rcases h5 with h5 | h5
        · exact absurd h5 hnd
        · simp only [Bool.and_eq_true, Bool.not_eq_true'] at h5
          exact ⟨h5.1, List.mem_of_getElem? (by rw [Array.getElem?_toList]; exact hxo), x, hxo, h5.2⟩
      have hov : isLoose ops[i].op = true → (∀ x ∈ l1.filterMap (ops[·]?), Over ops x x) ∧ (l1.filterMap (ops[·]?)).Pairwise (Over2 ops) := by
        intro hst
        have h6 := hd.2.resolve_left (by rw [hst]; simp)
        have over : ∀ x y ox oy, ops[x]? = some ox → ops[y]? = some oy → overB ops x y = true → Over ops ox oy ∧ (x ≠ y → ∀ d, ox.dst = some d → oy.dst ≠ some d) := by
          intro x y ox oy hox hoy h8
          unfold overB at h8
          rw [hox, hoy] at h8
          simp only [Bool.and_eq_true, Bool.or_eq_true] at h8
          refine ⟨fun d hd2 hin => ?_, fun hne d hd1 hd2 => ?_⟩
          · have h9 := h8.1
            rw [hd2] at h9
            simp at h9
            exact h9 hin
          · have h9 := h8.2.resolve_left (by simpa using hne)
            rw [hd1, hd2] at h9
            simp at h9
        have split : ∀ (l : List Nat), l.Nodup → pairsB ops dep i l = true → (∀ x ∈ l.filter (fun i => !L.getD i true), ¬ (dep.getD i []).contains x = true) → (∀ ox ∈ (l.filter (fun i => !L.getD i true)).filterMap (ops[·]?), Over ops ox ox) ∧ ((l.filter (fun i => !L.getD i true)).filterMap (ops[·]?)).Pairwise (Over2 ops) := by
          intro l
          induction l with
          | nil => intro _ _ _; simp
          | cons x l ih2 =>
            intro hn hp hno
            simp only [pairsB, Bool.and_eq_true, Bool.or_eq_true, List.all_eq_true] at hp
            obtain ⟨hn1, hn2⟩ := List.nodup_cons.1 hn
            rw [List.filter_cons] at hno ⊢
            split
            · rename_i hx
              rw [if_pos hx] at hno
              have ihh := ih2 hn2 hp.2 (fun y hy => hno y (List.mem_cons_of_mem _ hy))
              have hxn := hno x (by simp)
              have hall := hp.1.resolve_left hxn
              rw [List.filterMap_cons]
              cases hox : ops[x]? with
              | none => exact ihh
              | some ox =>
                simp only
                have hxx := (hall x (by simp)).resolve_left hxn
                refine ⟨fun oy hoy => ?_, List.pairwise_cons.2 ⟨fun oy hoy => ?_, ihh.2⟩⟩
                · rcases List.mem_cons.1 hoy with rfl | hoy
                  · exact (over x x _ _ hox hox hxx).1
                  · exact ihh.1 oy hoy
                · obtain ⟨y, hy, hyo⟩ := List.mem_filterMap.1 hoy
                  have hyl := (List.mem_filter.1 hy).1
                  have hyn := hno y (List.mem_cons_of_mem _ hy)
                  have hxy := (hall y (by simp [hyl])).resolve_left hyn
                  obtain ⟨v1, v2⟩ := over x y _ _ hox hyo hxy
                  exact ⟨v1, v2 (fun e => hn1 (e ▸ hyl))⟩
            · rename_i hx
              rw [if_neg hx] at hno
              exact ih2 hn2 hp.2 hno
        have hnpp : pp.Nodup := by rw [hpq] at hnd0; exact (List.nodup_append.1 hnd0).1
        have := split pp hnpp h6 (by rw [hp1]; exact fun x hx => (hnodep x hx).2)
        rw [hp1] at this
        exact this
      rw [hsplit, List.filterMap_append, List.filterMap_cons, hoi] at hr
      obtain ⟨_, S1, _, _, _, hs1, hr1⟩ := bubble (Lv := fun S => ∃ a w, InvA w0 F0 Pb N S a w) (fun S ⟨a, w, _, _, F, A, hI⟩ => hI.closed) (fun S S1 x hx ⟨a, w, hI⟩ hst => stepD_live hT hS hc (ho x hx) hst hI) hsw hov ⟨a, w, h⟩ hr
      rw [← List.filterMap_append] at hr1
      have hl' : left ord (L.setIfInBounds i true) = l1 ++ l2 := by rw [left_set hL hlt, hsplit, filter_ne hnd]
      refine stepD_ok hT hS hc hoi (ho _ (by simp)) hs1 h fun a' w' h' => ih (L.setIfInBounds i true) (by simpa using hL) ?_ (fun k hk hkl j hj => ?_) (by rw [hl']; exact hr1) h'
      · rw [hl']
        rw [hsplit] at hlen
        simp at hlen ⊢
        omega
      · have up : ∀ j, L.getD j false = true → (L.setIfInBounds i true).getD j false = true := by
          intro j hj
          by_cases e : j = i
          · subst e; simp [Array.getD_eq_getD_getElem?, hL, hlt]
          · simp only [Array.getD_eq_getD_getElem?] at hj ⊢
            rw [Array.getElem?_setIfInBounds]
            simp [Ne.symm e]
            simpa using hj
        by_cases e : k = i
        · subst e; exact up j (hdepl j hj)
        · have : L.getD k true = true := by
            simp only [Array.getD_eq_getD_getElem?] at hkl ⊢
            rw [Array.getElem?_setIfInBounds] at hkl
            simpa [Ne.symm e] using hkl
          exact up j (hclosed k hk this j hj)
theorem filterMap_range {α : Type} (ops : Array α) : (List.range ops.size).filterMap (ops[·]?) = ops.toList := by
  have : ∀ (l : List α), (List.range l.length).filterMap (l[·]?) = l := by
    intro l
    induction l with
    | nil => rfl
    | cons x l ih =>
      rw [List.length_cons, List.range_succ_eq_map, List.filterMap_cons]
      simp only [List.getElem?_cons_zero, List.filterMap_map]
      congr 1
  have h2 := this ops.toList
  simpa using h2
theorem ordChk_spec {dep : List (List Nat)} : ∀ {l pre : List Nat}, ordChk T an ops dep pre l = true → (∀ p i q, l = p ++ i :: q → depOk T an ops dep (pre ++ p) i = true) ∧ (pre.Nodup → (pre ++ l).Nodup) ∧ ∀ i ∈ l, i < ops.size
  | [], pre, h => ⟨fun p i q hl => by simp at hl, fun hp => by simpa using hp, by simp⟩
  | a :: l, pre, h => by
    simp only [ordChk, Bool.and_eq_true, Bool.not_eq_true', decide_eq_true_eq] at h
    obtain ⟨⟨⟨h1, h2⟩, h3⟩, h4⟩ := h
    obtain ⟨i1, i2, i3⟩ := ordChk_spec h4
    refine ⟨fun p i q hl => ?_, fun hp => ?_, fun i hi => ?_⟩
    · cases p with
      | nil =>
        simp only [List.nil_append, List.cons.injEq] at hl
        obtain ⟨rfl, rfl⟩ := hl
        simpa using h1
      | cons b p =>
        simp only [List.cons_append, List.cons.injEq] at hl
        obtain ⟨rfl, rfl⟩ := hl
        have := i1 p i q rfl
        simpa using this
    · have : (pre ++ [a]).Nodup := by
        rw [List.nodup_append]
        refine ⟨hp, by simp, fun x hx y hy e => ?_⟩
        simp only [List.mem_singleton] at hy
        subst hy; subst e
        rw [List.contains_eq_mem] at h2
        simp [hx] at h2
      have := i2 this
      simpa using this
    · rcases List.mem_cons.1 hi with rfl | hi
      · exact h3
      · exact i3 i hi
theorem draw_ok (hm : P.follows .mixedOrders = true) (hT : TOk P T) (hS : ShOk T) (hc : CallOk P call) (hd : drawChk T an ops = true) (ho : ∀ o ∈ ops.toList, okDst N o = true) {S : St} (hr : runD T call an ops (opsOf ops) S = some S') (hQ : ∀ a w, InvA w0 F0 Pb N S' a w → Q .normal a w)
    {a : Act} {w : World} (h : InvA w0 F0 Pb N S a w) (id : Nat) : (Code.region id ops true).wp P Q a w := by
  simp only [drawChk, Bool.and_eq_true, List.all_eq_true] at hd
  obtain ⟨hin, hchk⟩ := hd
  obtain ⟨s1, s2, s3⟩ := ordChk_spec hchk
  have hnd : (ordOf ops).Nodup := by simpa using s2 .nil
  have hmem : ∀ i, i ∈ ordOf ops ↔ i < ops.size := by
    intro i
    exact ⟨s3 i, fun hi => by simpa using hin i (by simpa using hi)⟩
  refine wp_region_any hm (any_ok (S := S) hT hS hc ho (dep := clos ops.toList []) hnd hmem (fun p i q hpq => by simpa using s1 p i q hpq) hQ ops.size _ (by simp) ?_ ?_ ?_ ?_)
  · have h1 : (left (ordOf ops) (Array.replicate ops.size false)).length ≤ (ordOf ops).length := List.length_filter_le _ _
    have h2 : (ordOf ops).Perm (List.range ops.size) := (List.perm_ext_iff_of_nodup hnd List.nodup_range).2 fun i => by rw [hmem i]; simp
    have h3 := h2.length_eq
    simp at h3
    omega
  · intro i hi hl
    exfalso
    simp [Array.getD_eq_getD_getElem?, hi] at hl
  · have : left (ordOf ops) (Array.replicate ops.size false) = ordOf ops := by
      unfold left
      refine List.filter_eq_self.2 fun i hi => ?_
      have : i < ops.size := (hmem i).1 hi
      simp [Array.getD_eq_getD_getElem?, this]
    rw [this]
    exact hr
  · obtain ⟨h1, h2, F, A, h3⟩ := h
    exact ⟨h1, h2, F, A, h3.grow ((Below.refl _ _).drew)⟩
end
end Go.EV
