/- Regions whose order the machine draws: every order comes to the same. -/
import Derived.Test.YtehjeifbgegabaaEv15
import Derived.Orders
set_option linter.unusedVariables false
set_option linter.unusedSimpArgs false
namespace Go.EV
open Go.RowKit
def RSub (r r' : Nat → Option X) : Prop := ∀ g c, r g = some c → r' g = some c
def RSubL (L : List Nat) (r r' : Nat → Option X) : Prop := ∀ g ∈ L, ∀ c, r g = some c → r' g = some c
theorem elems_sub {r r' : Nat → Option X} {x : X} (h : RSubL x.refs r r') {c : List X} (he : elems r x = some c) : elems r' x = some c := by
  unfold elems at he ⊢
  split at he
  · exact he
  · split at he
    · rename_i hg; simp only [h _ (by simp [X.refs]) _ hg]; exact he
    · cases he
  · split at he
    · rename_i hg; simp only [h _ (by simp [X.refs]) _ hg]; exact he
    · cases he
  · cases he
mutual
theorem frz_sub {r r' : Nat → Option X} : ∀ {x y : X}, RSubL x.refs r r' → frz r x = some y → frz r' x = some y
  | .ag xs, y, h, he => by
    simp only [frz] at he ⊢
    obtain ⟨ys, hys, rfl⟩ := Option.map_eq_some_iff.1 he
    rw [frzL_sub (by simpa only [X.refs] using h) hys]; rfl
  | .hw g, y, h, he => by
    simp only [frz] at he ⊢
    split at he
    · rename_i hg; simp only [h _ (by simp [X.refs]) _ hg]; exact he
    · cases he
  | .hd g lo len f, y, h, he => by
    simp only [frz] at he ⊢
    split at he
    · rename_i hg; simp only [h _ (by simp [X.refs]) _ hg]; exact he
    · cases he
  | .b v, y, h, he | .i k n, y, h, he | .s l, y, h, he | .ar d xs, y, h, he | .sl f xs, y, h, he | .np, y, h, he | .pf x, y, h, he | .nm, y, h, he | .nf, y, h, he => by simpa only [frz] using he
  | .bot, y, h, he | .tup _, y, h, he | .pt _ _ _, y, h, he | .fn _ _, y, h, he | .ow _ _, y, h, he | .ob _, y, h, he => by simp [frz] at he
theorem frzL_sub {r r' : Nat → Option X} : ∀ {xs ys : List X}, RSubL (refsL xs) r r' → frzL r xs = some ys → frzL r' xs = some ys
  | [], ys, h, he => by simpa only [frzL] using he
  | x :: xs, ys, h, he => by
    simp only [frzL] at he ⊢
    split at he
    · rename_i y ys' h1 h2
      simp only [frz_sub (fun g hg => h g (by simp [refsL, hg])) h1, frzL_sub (fun g hg => h g (by simp [refsL, hg])) h2]; exact he
    · cases he
end
theorem frw_sub {r r' : Nat → Option X} {x y : X} (h : RSubL x.refs r r') (he : frw r x = some y) : frw r' x = some y := by
  obtain ⟨z, hz, rfl⟩ := Option.map_eq_some_iff.1 he
  simp only [frw, frz_sub h hz, Option.map_some]
theorem frwL_sub {r r' : Nat → Option X} {xs ys : List X} (h : RSubL (refsL xs) r r') (he : frwL r xs = some ys) : frwL r' xs = some ys := by
  obtain ⟨zs, hz, rfl⟩ := Option.map_eq_some_iff.1 he
  simp only [frwL, frzL_sub h hz, Option.map_some]
theorem opq_sub {T : TT} {call : FuncId → List X → Option (X × List X)} {an : FuncId → An} {r r' : Nat → Option X} {dst : Nat} {o : Op} {xs : List X} (h : RSubL (refsL xs) r r') {q : X × List (Nat × X) × List Nat} (he : opq T call an r dst o xs = some q) : opq T call an r' dst o xs = some q := by
  have lenS : ∀ {x : X} {n : Nat}, RSubL x.refs r r' → lenX r x = some n → lenX r' x = some n := by
    intro x n h hx
    unfold lenX at hx ⊢
    split at hx
    · exact hx
    · obtain ⟨c, hc, rfl⟩ := Option.map_eq_some_iff.1 hx
      rw [elems_sub h hc]; rfl
  cases o <;> simp only [opq] at he ⊢ <;> (try exact he)
  case buildSlice t n ps =>
    unfold buildSlX at he ⊢
    split at he
    · split at he
      · split at he
        · rename_i hz; rw [if_pos hz]; exact he
        · rename_i hz
          rw [if_neg hz]
          split at he
          · rename_i xs' hx; simp only [frwL_sub h hx]; exact he
          · cases he
      · cases he
    · cases he
  case load t y =>
    unfold x1 at he ⊢
    split at he
    · rename_i x
      have h : RSubL x.refs r r' := by simpa [refsL] using h
      dsimp only at he ⊢
      have key : ∀ z, ldV T r t x = some z → ldV T r' t x = some z := by
        intro z hz
        unfold ldV at hz ⊢
        split at hz
        · split at hz
          · split at hz
            · rename_i hg; simp only [h _ (by simp [X.refs]) _ hg]; exact hz
            · cases hz
          · exact hz
          · cases hz
        · cases hz
      cases hl : ldV T r t x with
      | none => rw [hl] at he; cases he
      | some z => rw [hl] at he; simp only [key z hl]; exact he
    · cases he
  case convert src t y =>
    unfold x1 at he ⊢
    split at he
    · rename_i x
      have h : RSubL x.refs r r' := by simpa [refsL] using h
      unfold convX at he ⊢
      split at he
      · exact he
      · exact he
      · exact he
      · split at he
        · rename_i hu; rw [if_pos hu]
          split at he
          · rename_i c hc; simp only [elems_sub h hc]; exact he
          · cases he
        · cases he
      · cases he
    · cases he
  case slice t y lo hi mx =>
    unfold sliceX at he ⊢
    split at he
    · rename_i x xs
      have h : RSubL x.refs r r' := fun g hg => h g (by simp [refsL, hg])
      dsimp only at he ⊢
      split at he
      · exact he
      · split at he
        · rename_i ei hei
          have key : ∀ (es : Nat) (l1 l2 l3 : Option X) z, cut r es x l1 l2 l3 = some z → cut r' es x l1 l2 l3 = some z := by
            intro es l1 l2 l3 z hz
            unfold cut at hz ⊢
            split at hz
            · exact hz
            · split at hz
              · rename_i hg; simp only [h _ (by simp [X.refs]) _ hg]; exact hz
              · cases hz
            · split at hz
              · rename_i hg; simp only [h _ (by simp [X.refs]) _ hg]; exact hz
              · cases hz
            · cases hz
          revert he
          generalize (optX lo xs).1 = l1
          generalize (optX hi (optX lo xs).2).1 = l2
          generalize (optX mx (optX hi (optX lo xs).2).2).1 = l3
          intro he
          cases hc : cut r ei.size x l1 l2 l3 with
          | none => rw [hc] at he; cases he
          | some z => rw [hc] at he; rw [key _ _ _ _ _ hc]; exact he
        · cases he
      · cases he
    · cases he
  case indexAddr t y n =>
    unfold x2 at he ⊢
    split at he
    · rename_i x n'
      have h : RSubL x.refs r r' := fun g hg => h g (by simp [refsL, hg])
      unfold intX at he ⊢
      dsimp only at he ⊢
      split at he
      · rename_i k m
        have key : ∀ x : X, RSubL x.refs r r' → ∀ z, idxA T r t x m = some z → idxA T r' t x m = some z := by
          clear h he
          intro x h z hz
          unfold idxA at hz ⊢
          split at hz
          · split at hz
            · split at hz
              · exact hz
              · split at hz
                · rename_i hg; simp only [h _ (by simp [X.refs]) _ hg]; exact hz
                · cases hz
              · split at hz
                · rename_i hg; simp only [h _ (by simp [X.refs]) _ hg]; exact hz
                · cases hz
              · cases hz
            · cases hz
          · exact hz
          · cases hz
        cases hl : idxA T r t x m with
        | none => rw [hl] at he; cases he
        | some z => rw [hl] at he; simp only [key x (fun g hg => h g (by simp [refsL, hg])) z hl]; exact he
      · cases he
    · cases he
  case call c =>
    split at he
    · unfold x1 at he ⊢
      split at he
      · rename_i x
        have h : RSubL x.refs r r' := by simpa [refsL] using h
        dsimp only at he ⊢
        have key : ∀ t z, lenV T r t x = some z → lenV T r' t x = some z := by
          intro t z hz
          unfold lenV at hz ⊢
          split at hz
          · have k2 : ∀ z, (lenX r x).map (fun (n : Nat) => X.i .i64 n) = some z → (lenX r' x).map (fun (n : Nat) => X.i .i64 n) = some z := by
              intro z hz
              obtain ⟨n, hn, rfl⟩ := Option.map_eq_some_iff.1 hz
              rw [lenS h hn]; rfl
            cases x <;> first | (cases hz; done) | exact k2 _ hz
          · exact hz
          · cases hz
        cases hl : lenV T r (c.argTypes[0]?) x with
        | none => rw [hl] at he; cases he
        | some z => rw [hl] at he; simp only [key _ z hl]; exact he
      · cases he
    · unfold callX at he ⊢
      have h : RSubL (refsL xs.tail) r r' := fun g hg => h g (by cases xs with | nil => simp [refsL] at hg | cons y ys => simp only [List.tail_cons] at hg; simp [refsL, hg])
      split at he
      · rename_i hm; rw [if_pos hm]
        split at he
        · rename_i ts hts; simp only [frzL_sub h hts]; exact he
        · cases he
      · cases he
    · cases he
theorem addR_sub : ∀ {l : List (Nat × X)} {r r' : Nat → Option X}, addR r l = some r' → RSub r r'
  | [], r, r', h => by simp only [addR, Option.some.injEq] at h; subst h; exact fun _ _ h => h
  | (g, x) :: l, r, r', h => by
    simp only [addR] at h
    split at h
    · rename_i hg
      intro k c hk
      refine addR_sub h k c ?_
      unfold upd
      by_cases e : k = g
      · subst e; rw [hg] at hk; cases hk
      · simpa [e] using hk
    · cases h
theorem upd_comm {α : Type} (f : Nat → α) {a b : Nat} (h : a ≠ b) (x y : α) : upd (upd f a x) b y = upd (upd f b y) a x := by
  funext k
  unfold upd
  by_cases e : k = a
  · subst e; simp [h]
  · simp [e]
theorem addR_one : ∀ {l : List (Nat × X)} {r r2 : Nat → Option X} {g : Nat} {x : X}, r g = none → addR (upd r g (some x)) l = some r2 → ∃ r1, addR r l = some r1 ∧ r1 g = none ∧ r2 = upd r1 g (some x)
  | [], r, r2, g, x, hg, h => by
    simp only [addR, Option.some.injEq] at h
    exact ⟨r, rfl, hg, h.symm⟩
  | (k, y) :: l, r, r2, g, x, hg, h => by
    simp only [addR] at h
    split at h
    · rename_i hk
      by_cases e : k = g
      · subst e; simp [upd] at hk
      · have hk' : r k = none := by simpa [upd, e] using hk
        rw [upd_comm r (Ne.symm e) (some x) (some y)] at h
        obtain ⟨r1, h1, h2, h3⟩ := addR_one (r := upd r k (some y)) (by simp [upd, Ne.symm e, hg]) h
        exact ⟨r1, by simp only [addR, hk']; exact h1, h2, h3⟩
    · cases h
theorem addR_comm : ∀ {n1 n2 : List (Nat × X)} {r r1 r2 : Nat → Option X}, addR r n1 = some r1 → addR r1 n2 = some r2 → ∃ r1', addR r n2 = some r1' ∧ addR r1' n1 = some r2
  | [], n2, r, r1, r2, h1, h2 => by
    simp only [addR, Option.some.injEq] at h1
    subst h1
    exact ⟨r2, h2, rfl⟩
  | (g, x) :: n1, n2, r, r1, r2, h1, h2 => by
    simp only [addR] at h1
    split at h1
    · rename_i hg
      obtain ⟨q, q1, q2⟩ := addR_comm h1 h2
      obtain ⟨q', p1, p2, rfl⟩ := addR_one hg q1
      exact ⟨q', p1, by simp only [addR, p2]; exact q2⟩
    · cases h1
def isStore : Op → Bool
  | .store _ _ _ => true
  | _ => false
/-- x, then p: may they change places? -/
def swapOk (T : TT) (an : FuncId → An) (ops : Array Oper) (x p : Oper) : Bool :=
  x.apart ops p && !isEff an x.op && (!isEff an p.op || isStore p.op)
/-- No name without a place. -/
def Closed (S : St) : Prop := ∀ v, ∀ g ∈ (S.t v).refs, S.r g ≠ none
theorem Closed.ev {S : St} (h : Closed S) (x : Operand) : ∀ g ∈ (S.ev x).refs, S.r g ≠ none := by
  cases x with
  | tmp t => exact h t
  | const c =>
    intro g hg
    exfalso
    revert hg
    simp only [St.ev]
    unfold ofConst
    split <;> simp [X.refs]
  | global g => intro k hk; simp [St.ev, X.refs] at hk
  | func f => intro k hk; simp [St.ev, X.refs, refsL] at hk
theorem Closed.evs {S : St} (h : Closed S) : ∀ (l : List Operand), ∀ g ∈ refsL (l.map S.ev), S.r g ≠ none
  | [], g, hg => by simp [refsL] at hg
  | x :: l, g, hg => by
    simp only [List.map_cons, refsL, List.mem_append] at hg
    rcases hg with hg | hg
    · exact h.ev x g hg
    · exact h.evs l g hg
theorem opq_nr {T : TT} {call : FuncId → List X → Option (X × List X)} {an : FuncId → An} {r r' : Nat → Option X} {dst : Nat} {o : Op} {xs : List X} (h : readsR o = false) : opq T call an r dst o xs = opq T call an r' dst o xs := by
  cases o <;> simp only [readsR, Bool.true_eq_false] at h <;> rfl
theorem addR_upd : ∀ {l : List (Nat × X)} {r r1 : Nat → Option X} {g : Nat} {c c' : X}, r g = some c → addR r l = some r1 → addR (upd r g (some c')) l = some (upd r1 g (some c'))
  | [], r, r1, g, c, c', hg, h => by simp only [addR, Option.some.injEq] at h ⊢; rw [h]
  | (k, x) :: l, r, r1, g, c, c', hg, h => by
    simp only [addR] at h ⊢
    split at h
    · rename_i hk
      have hne : k ≠ g := fun e => by subst e; rw [hg] at hk; cases hk
      have hk' : upd r g (some c') k = none := by simp [upd, hne, hk]
      rw [hk']
      simp only
      rw [upd_comm r (Ne.symm hne) (some c') (some x)]
      exact addR_upd (c := c) (by simp [upd, Ne.symm hne, hg]) h
    · cases h
section
variable {T : TT} {call : FuncId → List X → Option (X × List X)} {an : FuncId → An} {ops : Array Oper}
theorem ev_put {S : St} {r' : Nat → Option X} {d : Option Nat} {v : X} {x : Operand} (h : ∀ t, x = .tmp t → d ≠ some t) : (put { S with r := r' } d v).ev x = S.ev x := by
  cases x with
  | tmp t =>
    cases d with
    | none => rfl
    | some d =>
      have : t ≠ d := fun e => h t rfl (by rw [e])
      simp [put, St.ev, upd, this]
  | const c => cases d <;> rfl
  | global g => cases d <;> rfl
  | func f => cases d <;> rfl
theorem operand_looks {o : Oper} {t : Nat} (h : Operand.tmp t ∈ o.op.operands.toList) : t ∈ o.looksAt ops := by
  unfold Oper.looksAt
  exact List.mem_append.2 (.inl (List.mem_filterMap.2 ⟨.tmp t, h, rfl⟩))
/-- What an operation sees does not hang on a slot that it does not look at. -/
theorem look_put {S : St} {r' : Nat → Option X} {d : Option Nat} {v : X} {o : Oper} (h : ∀ t, d = some t → t ∉ o.looksAt ops) :
    o.op.operands.toList.map (put { S with r := r' } d v).ev = o.op.operands.toList.map S.ev ∧ wantedX ops (put { S with r := r' } d v) o = wantedX ops S o := by
  constructor
  · refine List.map_congr_left fun x hx => ev_put fun t ht hd => ?_
    subst ht
    exact h t hd (operand_looks hx)
  · unfold wantedX
    cases hg : o.guard with
    | none => rfl
    | some jw =>
      obtain ⟨j, want⟩ := jw
      simp only
      cases hj : (ops[j]?).bind (·.dst) with
      | none => rfl
      | some e =>
        simp only
        have hl : e ∈ o.looksAt ops := by
          unfold Oper.looksAt
          refine List.mem_append.2 (.inr ?_)
          rw [hg]; simp [hj]
        have : (put { S with r := r' } d v).t e = S.t e := by
          cases d with
          | none => rfl
          | some d =>
            have : e ≠ d := fun he => h d rfl (he ▸ hl)
            simp [put, upd, this]
        rw [this]
theorem swap_quiet {x p : Oper} (hap : x.apart ops p = true) (hx : isEff an x.op = false) (hp : isEff an p.op = false) {S S1 S2 : St} (hcl : Closed S) (h1 : stepD T call an ops S x = some S1) (h2 : stepD T call an ops S1 p = some S2) : ∃ S1', stepD T call an ops S p = some S1' ∧ stepD T call an ops S1' x = some S2 := by
  obtain ⟨a1, a2, a3⟩ := Oper.apart_spec hap
  unfold stepD at h1 h2
  rw [hx] at h1
  rw [hp] at h2
  simp only [Bool.false_eq_true, if_false] at h1 h2
  split at h1
  · rename_i vx nx hqx
    split at h1
    · rename_i r1 hr1
      cases h1
      split at h2
      · rename_i vp np hqp
        split at h2
        · rename_i r2 hr2
          cases h2
          have hr2' : addR r1 np = some r2 := by
            have : (put { S with r := r1 } x.dst vx).r = r1 := by cases x.dst <;> rfl
            rw [this] at hr2; exact hr2
          have hsub1 := addR_sub hr1
          -- p first
          obtain ⟨l1, l2⟩ := look_put (ops := ops) (S := S) (r' := r1) (d := x.dst) (v := vx) (o := p) a1
          have hpr : (put { S with r := r1 } x.dst vx).r = r1 := by cases x.dst <;> rfl
          have hqp' : qD T call an ops S p = some (vp, np) := by
            unfold qD at hqp ⊢
            rw [l2, l1, hpr] at hqp
            split at hqp
            · rename_i hw
              split at hqp
              · rename_i z news hz
                have : opq T call an S.r (dstOf p) p.op (p.op.operands.toList.map S.ev) = some (z, news, []) := by
                  refine opq_sub (fun g hg c hc => ?_) hz
                  have := hcl.evs _ g hg
                  cases hgs : S.r g with
                  | none => exact absurd hgs this
                  | some c0 => rw [hsub1 g c0 hgs] at hc; exact hc
                first | (rw [hw, this]; exact hqp) | (rw [this]; exact hqp)
              · cases hqp
            · rename_i hw; first | exact hqp | (rw [hw]; exact hqp)
            · cases hqp
          obtain ⟨r1', q1, q2⟩ := addR_comm hr1 hr2'
          have hstep1 : stepD T call an ops S p = some (put { S with r := r1' } p.dst vp) := by
            unfold stepD
            rw [hp]
            simp only [Bool.false_eq_true, if_false, hqp', q1]
          refine ⟨_, hstep1, ?_⟩
          obtain ⟨m1, m2⟩ := look_put (ops := ops) (S := S) (r' := r1') (d := p.dst) (v := vp) (o := x) (fun t ht => a3 t ht)
          have hxr : (put { S with r := r1' } p.dst vp).r = r1' := by cases p.dst <;> rfl
          have hqx' : qD T call an ops (put { S with r := r1' } p.dst vp) x = some (vx, nx) := by
            unfold qD at hqx ⊢
            rw [m2, m1, hxr]
            split at hqx
            · rename_i hw
              (try rw [hw])
              split at hqx
              · rename_i z news hz
                rw [opq_sub (fun g _ => addR_sub q1 g) hz]
                exact hqx
              · cases hqx
            · rename_i hw; first | exact hqx | (rw [hw]; exact hqx)
            · cases hqx
          unfold stepD
          rw [hx]
          simp only [Bool.false_eq_true, if_false, hqx', hxr, q2]
          congr 1
          cases hdx : x.dst with
          | none => cases hdp : p.dst <;> rfl
          | some dx =>
            cases hdp : p.dst with
            | none => rfl
            | some dp =>
              have hne : dx ≠ dp := fun e => a2 dx hdx (by rw [hdp, e])
              simp only [put]
              rw [upd_comm S.t hne vx vp]
        · cases h2
      · cases h2
    · cases h1
  · cases h1

theorem storeIn_eq {S : St} {ti : TI} {g off : Nat} {p : List Nat} {v z : X} {S' : St} (h : storeIn S ti g off p v = some (z, S')) : ∃ c, S.r g = some c ∧ z = .bot ∧ S' = { S with r := upd S.r g (some (setAt c p v)) } ∧ ∀ (t : Nat → X) (r : Nat → Option X), r g = some c → storeIn { t := t, r := r } ti g off p v = some (.bot, { t := t, r := upd r g (some (setAt c p v)) }) := by
  unfold storeIn at h
  split at h
  · rename_i c hc
    split at h
    · rename_i y o' hn
      split at h
      · rename_i hcond
        simp only [Option.some.injEq, Prod.mk.injEq] at h
        obtain ⟨rfl, rfl⟩ := h
        refine ⟨c, hc, rfl, rfl, fun t r hr => ?_⟩
        unfold storeIn
        simp only [hr, hn]
        rw [if_pos hcond]
      · cases h
    · cases h
  · cases h
/-- A store hangs on the place alone that it writes. -/
theorem storeX_eq {S : St} {t : Nat} {g off : Nat} {path : List Nat} {v z : X} {S' : St} {c : X} (hc : S.r g = some c) (hin : inAr c path = false ∨ v.refs = []) (h : storeX T S t (.pt g off path) v = some (z, S')) :
    ∃ c', z = .bot ∧ S' = { S with r := upd S.r g (some c') } ∧ ∀ (t' : Nat → X) (r : Nat → Option X), r g = some c → storeX T { t := t', r := r } t (.pt g off path) v = some (.bot, { t := t', r := upd r g (some c') }) := by
  unfold storeX at h
  simp only [hc] at h
  split at h
  · rename_i ti c2 hti he
    cases he
    split at h
    · rename_i hia
      have hv : v.refs = [] := by rcases hin with hin | hin; rw [hin] at hia; cases hia; exact hin
      split at h
      · rename_i v' S2 hv' hS2
        rw [hv] at hS2
        simp only [EV.freezeL, Option.some.injEq] at hS2
        subst hS2
        obtain ⟨c3, h1, h2, h3, h4⟩ := storeIn_eq h
        rw [hc] at h1; cases h1
        refine ⟨_, h2, h3, fun t' r hr => ?_⟩
        unfold storeX
        simp only [hr, hti, if_pos hia, hv, EV.freezeL]
        have : frw r v = some v' := frw_sub (fun k hk => by rw [hv] at hk; cases hk) hv'
        simp only [this]
        exact h4 t' r hr
      · cases h
    · rename_i hia
      obtain ⟨c3, h1, h2, h3, h4⟩ := storeIn_eq h
      rw [hc] at h1; cases h1
      refine ⟨_, h2, h3, fun t' r hr => ?_⟩
      unfold storeX
      simp only [hr, hti, if_neg hia]
      exact h4 t' r hr
  · cases h
theorem put_r {S : St} {d : Option Nat} {v : X} : (put S d v).r = S.r := by cases d <;> rfl
theorem put_comm {t : Nat → X} {r : Nat → Option X} {d e : Option Nat} {x y : X} (h : ∀ k, d = some k → e ≠ some k) : put (put { t := t, r := r } d x) e y = put (put { t := t, r := r } e y) d x := by
  cases d with
  | none => rfl
  | some d =>
    cases e with
    | none => rfl
    | some e =>
      have hne : d ≠ e := fun he => h d rfl (by rw [he])
      simp only [put]
      rw [upd_comm t hne x y]
theorem swap_store {x p : Oper} (hap : x.apart ops p = true) (hx : isEff an x.op = false) {t : Nat} {y z : Operand} (hop : p.op = .store t y z) {S S1 S2 : St} (hcl : Closed S)
    (hf : wantedX ops S p = some true → ∃ g off path c, S.ev y = .pt g off path ∧ S1.r g = some c ∧ (inAr c path = false ∨ (S.ev z).refs = []) ∧ (readsR x.op = true → g ∉ refsL (x.op.operands.toList.map S.ev)))
    (h1 : stepD T call an ops S x = some S1) (h2 : stepD T call an ops S1 p = some S2) : ∃ S1', stepD T call an ops S p = some S1' ∧ stepD T call an ops S1' x = some S2 := by
  obtain ⟨a1, a2, a3⟩ := Oper.apart_spec hap
  have hp : isEff an p.op = true := by rw [hop]; rfl
  unfold stepD at h1 h2
  rw [hx] at h1
  rw [hp] at h2
  simp only [Bool.false_eq_true, if_false, if_true] at h1 h2
  split at h1
  · rename_i vx nx hqx
    split at h1
    · rename_i r1 hr1
      cases h1
      have hsub1 := addR_sub hr1
      obtain ⟨l1, l2⟩ := look_put (ops := ops) (S := S) (r' := r1) (d := x.dst) (v := vx) (o := p) a1
      rw [l2] at h2
      -- x behind it
      have back : ∀ (rp r2 : Nat → Option X) (vp : X), (∀ q, opq T call an S.r (dstOf x) x.op (x.op.operands.toList.map S.ev) = some q → opq T call an rp (dstOf x) x.op (x.op.operands.toList.map S.ev) = some q) → addR rp nx = some r2 →
          stepD T call an ops (put { S with r := rp } p.dst vp) x = some (put (put { S with r := r2 } p.dst vp) x.dst vx) := by
        intro rp r2 vp ho hr
        obtain ⟨m1, m2⟩ := look_put (ops := ops) (S := S) (r' := rp) (d := p.dst) (v := vp) (o := x) (fun t ht => a3 t ht)
        have hqx' : qD T call an ops (put { S with r := rp } p.dst vp) x = some (vx, nx) := by
          unfold qD at hqx ⊢
          rw [m2, m1, put_r]
          split at hqx
          · rename_i hw
            (try rw [hw])
            split at hqx
            · rename_i z news hz
              rw [ho _ hz]
              exact hqx
            · cases hqx
          · rename_i hw; first | exact hqx | (rw [hw]; exact hqx)
          · cases hqx
        unfold stepD
        rw [hx]
        simp only [Bool.false_eq_true, if_false, hqx', put_r, hr]
        congr 1
        cases p.dst <;> rfl
      split at h2
      · rename_i hw
        obtain ⟨g, off, path, c, hy, hc1, hin, hread⟩ := hf hw
        rw [put_r] at hc1
        have hgn : S.r g ≠ none := hcl.ev y g (by rw [hy]; simp [X.refs])
        have hc : S.r g = some c := by
          cases hgs : S.r g with
          | none => exact absurd hgs hgn
          | some c0 =>
            have e1 := hsub1 g c0 hgs
            have e2 : r1 g = some c := hc1
            rw [e1] at e2; exact e2
        unfold opStep at h2
        rw [if_pos hp, l1, hop] at h2
        simp only [eff, Op.operands, List.map_cons, List.map_nil, hy] at h2
        split at h2
        · rename_i q S3 hst
          cases h2
          have hst' : storeX T (put { S with r := r1 } x.dst vx) t (.pt g off path) (S.ev z) = some (q, S3) := hst
          obtain ⟨c', rfl, rfl, h4⟩ := storeX_eq (T := T) (S := put { S with r := r1 } x.dst vx) (by rw [put_r]; exact hc1) hin hst'
          have hstep1 : stepD T call an ops S p = some (put { S with r := upd S.r g (some c') } p.dst .bot) := by
            unfold stepD
            rw [hp]
            simp only [if_true, hw]
            unfold opStep
            rw [if_pos hp, hop]
            simp only [eff, Op.operands, List.map_cons, List.map_nil, hy]
            have h5 := h4 S.t S.r hc
            have h6 : storeX T S t (.pt g off path) (S.ev z) = some (.bot, { S with r := upd S.r g (some c') }) := h5
            rw [h6]
          refine ⟨_, hstep1, ?_⟩
          rw [back (upd S.r g (some c')) (upd r1 g (some c')) .bot (fun q hq => ?_) (addR_upd hc hr1)]
          · congr 1
            rw [put_comm (fun k hk => fun e => a2 k e hk)]
            cases x.dst <;> rfl
          · cases hrd : readsR x.op with
            | false => rw [← opq_nr (r := S.r) hrd]; exact hq
            | true =>
              have hng := hread hrd
              exact opq_sub (fun k hk c hkc => by
                have : k ≠ g := fun e => hng (e ▸ hk)
                simpa [upd, this] using hkc) hq
        · cases h2
      · rename_i hw
        cases h2
        refine ⟨put S p.dst (.tup []), ?_, ?_⟩
        · unfold stepD
          rw [hp]
          simp only [if_true, hw]
        · have := back S.r r1 (.tup []) (fun q hq => hq) hr1
          have e1 : (put { S with r := S.r } p.dst (.tup [])) = put S p.dst (.tup []) := rfl
          rw [e1] at this
          rw [this]
          congr 1
          exact put_comm (fun k hk => fun e => a2 k e hk)
      · cases h2
    · cases h1
  · cases h1

def direct (o : Oper) : List Nat := (o.after.toList.filter (Region.binds .any)).map (·.on)
def clos : List Oper → List (List Nat) → List (List Nat)
  | [], acc => acc
  | o :: l, acc => clos l (acc ++ [(direct o).flatMap fun j => j :: acc.getD j []])
def overB (ops : Array Oper) (x y : Nat) : Bool :=
  match ops[x]?, ops[y]? with
  | some ox, some oy => match oy.dst with
    | some d => !(ox.looksAt ops).contains d
    | none => true
  | _, _ => true
def depOk (T : TT) (an : FuncId → An) (ops : Array Oper) (dep : List (List Nat)) (i : Nat) : Bool :=
  match ops[i]? with
  | some o => (direct o).all (fun j => decide (j < i)) && (dep.getD i []).all (fun j => (direct o).contains j || (direct o).any fun m => (dep.getD m []).contains j) &&
      ((List.range i).all fun x => (dep.getD i []).contains x || (match ops[x]? with | some ox => swapOk T an ops ox o && !dirs o x | none => false)) &&
      (!isStore o.op || (List.range i).all fun x => (dep.getD i []).contains x || (List.range i).all fun y => decide (y < x) || (dep.getD i []).contains y || overB ops x y)
  | none => false
def drawChk (T : TT) (an : FuncId → An) (ops : Array Oper) : Bool := (List.range ops.size).all (depOk T an ops (clos ops.toList []))
def Over (ops : Array Oper) (x y : Oper) : Prop := ∀ d, y.dst = some d → d ∉ x.looksAt ops
theorem stepD_t {x : Oper} (hx : isEff an x.op = false) {S S1 : St} (h : stepD T call an ops S x = some S1) : ∀ u, x.dst ≠ some u → S1.t u = S.t u := by
  unfold stepD at h
  rw [hx] at h
  simp only [Bool.false_eq_true, if_false] at h
  split at h
  · split at h
    · cases h
      intro u hu
      cases hd : x.dst with
      | none => rfl
      | some d =>
        have : u ≠ d := fun e => hu (by rw [hd, e])
        simp [put, upd, this]
    · cases h
  · cases h
theorem ev_of_t {S S' : St} {o : Oper} (h : ∀ u ∈ o.looksAt ops, S'.t u = S.t u) : (∀ x ∈ o.op.operands.toList, S'.ev x = S.ev x) ∧ wantedX ops S' o = wantedX ops S o := by
  constructor
  · intro x hx
    cases x with
    | tmp t => exact h t (operand_looks hx)
    | const c => rfl
    | global g => rfl
    | func f => rfl
  · unfold wantedX
    cases hg : o.guard with
    | none => rfl
    | some jw =>
      obtain ⟨j, want⟩ := jw
      simp only
      cases hj : (ops[j]?).bind (·.dst) with
      | none => rfl
      | some e =>
        simp only
        have hl : e ∈ o.looksAt ops := by
          unfold Oper.looksAt
          refine List.mem_append.2 (.inr ?_)
          rw [hg]; simp [hj]
        rw [h e hl]
theorem bubble {Lv : St → Prop} (hL1 : ∀ S, Lv S → Closed S) (hL2 : ∀ S S1 x, x ∈ ops.toList → Lv S → stepD T call an ops S x = some S1 → Lv S1) {i : Oper} {l2 : List Oper} {S' : St} : ∀ {l1 : List Oper} {S : St}, (∀ x ∈ l1, swapOk T an ops x i = true ∧ x ∈ ops.toList ∧ ∃ j, ops[j]? = some x ∧ dirs i j = false) →
    (isStore i.op = true → (∀ x ∈ l1, Over ops x x) ∧ l1.Pairwise (Over ops)) → Lv S → runD T call an ops (l1 ++ i :: l2) S = some S' →
    ∃ Se S1, chkS ops Se i = true ∧ (∀ u, (∀ x ∈ l1, x.dst ≠ some u) → Se.t u = S.t u) ∧ (∀ g c, S.r g = some c → Se.r g = some c) ∧ stepD T call an ops S i = some S1 ∧ runD T call an ops (l1 ++ l2) S1 = some S'
  | [], S, _, _, _, h => by
    simp only [List.nil_append, runD] at h
    split at h
    · rename_i hchk
      split at h
      · rename_i S1 h1; exact ⟨S, S1, hchk, fun _ _ => rfl, fun _ _ h => h, h1, h⟩
      · cases h
    · cases h
  | x :: l1, S, hs, hov, hlv, h => by
    simp only [List.cons_append, runD] at h
    split at h
    · rename_i hchk
      split at h
      · rename_i Sx hx
        obtain ⟨hsw, hxm, jx, hjx, hdx⟩ := hs x (by simp)
        obtain ⟨Se, S2, hc, ht, hr, h2, h3⟩ := bubble hL1 hL2 (fun y hy => hs y (by simp [hy])) (fun hst => ⟨fun y hy => (hov hst).1 y (by simp [hy]), (List.pairwise_cons.1 (hov hst).2).2⟩) (hL2 S Sx x hxm hlv hx) h
        simp only [swapOk, Bool.and_eq_true, Bool.not_eq_true', Bool.or_eq_true] at hsw
        obtain ⟨⟨hap, hxe⟩, hpe⟩ := hsw
        obtain ⟨a1, a2, a3⟩ := Oper.apart_spec hap
        have hxt := stepD_t hxe hx
        have hxr : ∀ g c, S.r g = some c → Sx.r g = some c := by
          intro g c hg
          unfold stepD at hx
          rw [hxe] at hx
          simp only [Bool.false_eq_true, if_false] at hx
          split at hx
          · split at hx
            · rename_i r1 hr1
              cases hx
              rw [put_r]
              exact addR_sub hr1 g c hg
            · cases hx
          · cases hx
        have key : ∃ S1, stepD T call an ops S i = some S1 ∧ stepD T call an ops S1 x = some S2 := by
          cases hie : isEff an i.op with
          | false => exact swap_quiet hap hxe hie (hL1 S hlv) hx h2
          | true =>
            have hst : isStore i.op = true := by rw [hie] at hpe; simpa using hpe
            obtain ⟨o1, o2⟩ := hov hst
            cases hop : i.op <;> rw [hop] at hst <;> simp only [isStore, Bool.false_eq_true] at hst
            rename_i t y z
            have hnotin : ∀ w ∈ i.looksAt ops, ∀ x' ∈ x :: l1, x'.dst ≠ some w := by
              intro w hw x' hx' hd
              have hsw' := (hs x' hx').1
              simp only [swapOk, Bool.and_eq_true] at hsw'
              exact (Oper.apart_spec hsw'.1.1).1 w hd hw
            have hiS : ∀ u ∈ i.looksAt ops, Se.t u = S.t u := fun u hu => (ht u fun x' hx' => hnotin u hu x' (by simp [hx'])).trans (hxt u (hnotin u hu x (by simp)))
            have hxS : ∀ u ∈ x.looksAt ops, Se.t u = S.t u := fun u hu => (ht u fun x' hx' hd => (List.pairwise_cons.1 o2).1 x' hx' u hd hu).trans (hxt u fun hd => o1 x (by simp) u hd hu)
            obtain ⟨i1, i2⟩ := ev_of_t (o := i) hiS
            obtain ⟨x1, _⟩ := ev_of_t (o := x) hxS
            refine swap_store hap hxe hop (hL1 S hlv) (fun hw => ?_) hx h2
            unfold chkS at hc
            rw [hop] at hc
            simp only [i2, hw] at hc
            have ey : Se.ev y = S.ev y := i1 y (by rw [hop]; simp [Op.operands])
            have ez : Se.ev z = S.ev z := i1 z (by rw [hop]; simp [Op.operands])
            rw [ey, ez] at hc
            split at hc
            · rename_i g off path hy
              simp only [Bool.and_eq_true] at hc
              obtain ⟨hc1, hc2⟩ := hc
              split at hc1
              · rename_i c hgc
                have hgn : S.r g ≠ none := (hL1 S hlv).ev y g (by rw [hy]; simp [X.refs])
                have hgS : Sx.r g = some c := by
                  cases hgs : S.r g with
                  | none => exact absurd hgs hgn
                  | some c0 =>
                    have h1 := hxr g c0 hgs
                    have h2 := hr g c0 h1
                    rw [hgc] at h2; cases h2; exact h1
                refine ⟨g, off, path, c, hy, hgS, ?_, fun hrd hg => ?_⟩
                · simp only [Bool.or_eq_true, Bool.not_eq_true', List.isEmpty_iff] at hc1
                  exact hc1
                · have hjl := (Array.getElem?_eq_some_iff.1 hjx).1
                  have h7 := List.all_eq_true.1 hc2 jx (by simpa using hjl)
                  rw [hjx] at h7
                  simp only [hrd, hdx, Bool.not_true, Bool.false_or, Bool.or_false, Bool.not_eq_true', List.contains_eq_mem, decide_eq_false_iff_not] at h7
                  exact h7 (by rw [List.map_congr_left x1]; exact hg)
              · cases hc1
            · cases hc
        obtain ⟨S1, k1, k2⟩ := key
        refine ⟨Se, S1, hc, fun u hu => (ht u fun x' hx' => hu x' (by simp [hx'])).trans (hxt u (hu x (by simp))), fun g c hg => hr g c (hxr g c hg), k1, ?_⟩
        have hcx : chkS ops S1 x = true := by
          unfold chkS
          cases hxo : x.op <;> simp only
          rw [hxo] at hxe
          simp [isEff] at hxe
        simp only [List.cons_append, runD, hcx, if_true, k2]
        exact h3
      · cases h
    · cases h
/-- What is left. -/
def left (n : Nat) (L : Array Bool) : List Nat := (List.range n).filter fun i => !L.getD i true
theorem left_set {n i : Nat} {L : Array Bool} (hL : L.size = n) (hi : i < n) : left n (L.setIfInBounds i true) = (left n L).filter (· != i) := by
  unfold left
  rw [List.filter_filter]
  refine List.filter_congr fun j hj => ?_
  by_cases e : j = i
  · subst e; simp [Array.getD_eq_getD_getElem?, hL, hi]
  · have : (L.setIfInBounds i true).getD j true = L.getD j true := by simp [Array.getD_eq_getD_getElem?, Array.getElem?_setIfInBounds, Ne.symm e]
    rw [this]; simp [e]
theorem filter_ne {i : Nat} : ∀ {l1 l2 : List Nat}, (l1 ++ i :: l2).Nodup → (l1 ++ i :: l2).filter (· != i) = l1 ++ l2 := by
  intro l1 l2 h
  have h1 : i ∉ l1 := fun hm => (List.nodup_append.1 h).2.2 i hm i (by simp) rfl
  have h2 : i ∉ l2 := (List.nodup_cons.1 (List.nodup_append.1 h).2.1).1
  rw [List.filter_append, List.filter_cons]
  simp only [bne_self_eq_false, Bool.false_eq_true, if_false]
  rw [List.filter_eq_self.2 (fun a ha => by simp; intro e; subst e; exact h1 ha), List.filter_eq_self.2 (fun a ha => by simp; intro e; subst e; exact h2 ha)]
end
section
variable {P : Program} {T : TT} {w0 : World} {F0 Pb : Nat → Prop} {N : Nat} {call : FuncId → List X → Option (X × List X)} {an : FuncId → An} {ops : Array Oper} {Q : Exit → Act → World → Prop} {S' : St}
mutual
theorem rc_refs {F : Nat → Prop} {A : Nat → Option RA} {w : World} : ∀ {x : X} {cs : List Value}, Rc w F A x cs → ∀ g ∈ x.refs, ∃ ra, A g = some ra
  | .ag xs, cs, h, g, hg => by simp only [Rc] at h; exact rcL_refs h g (by simpa only [X.refs] using hg)
  | .hw k, cs, h, g, hg => by simp only [Rc] at h; obtain ⟨ra, a, c, hA, _⟩ := h; simp [X.refs] at hg; subst hg; exact ⟨ra, hA⟩
  | .hd k lo len f, cs, h, g, hg => by simp only [Rc] at h; obtain ⟨ra, a, c, hA, _⟩ := h; simp [X.refs] at hg; subst hg; exact ⟨ra, hA⟩
  | .pt k o p, cs, h, g, hg => by simp only [Rc] at h; obtain ⟨ra, hA, _⟩ := h; simp [X.refs] at hg; subst hg; exact ⟨ra, hA⟩
  | .fn f cap, cs, h, g, hg => by simp only [Rc] at h; obtain ⟨rfl, _⟩ := h; simp [X.refs, refsL] at hg
  | .tup xs, cs, h, g, hg => by simp [Rc] at h
  | .b v, cs, h, g, hg | .i k n, cs, h, g, hg | .s l, cs, h, g, hg | .ar d xs, cs, h, g, hg | .sl f xs, cs, h, g, hg | .np, cs, h, g, hg | .pf x, cs, h, g, hg | .nm, cs, h, g, hg | .nf, cs, h, g, hg | .bot, cs, h, g, hg | .ow _ _, cs, h, g, hg | .ob _, cs, h, g, hg => by simp [X.refs] at hg
theorem rcL_refs {F : Nat → Prop} {A : Nat → Option RA} {w : World} : ∀ {xs : List X} {cs : List Value}, RcL w F A xs cs → ∀ g ∈ refsL xs, ∃ ra, A g = some ra
  | [], cs, h, g, hg => by simp [refsL] at hg
  | x :: xs, cs, h, g, hg => by
    simp only [RcL] at h
    obtain ⟨c1, c2, rfl, h1, h2⟩ := h
    simp only [refsL, List.mem_append] at hg
    rcases hg with hg | hg
    · exact rc_refs h1 g hg
    · exact rcL_refs h2 g hg
end
theorem rvL_refs {F : Nat → Prop} {A : Nat → Option RA} {w : World} : ∀ {xs : List X} {vs : List Value}, RvL w F A xs vs → ∀ g ∈ refsL xs, ∃ ra, A g = some ra
  | [], vs, h, g, hg => by simp [refsL] at hg
  | x :: xs, [], h, g, hg => by simp [RvL] at h
  | x :: xs, v :: vs, h, g, hg => by
    simp only [RvL] at h
    simp only [refsL, List.mem_append] at hg
    rcases hg with hg | hg
    · rcases h.1 with rfl | ⟨cs, h1, _⟩
      · simp [X.refs] at hg
      · exact rc_refs h1 g hg
    · exact rvL_refs h.2 g hg
theorem rv_refs {F : Nat → Prop} {A : Nat → Option RA} {w : World} {x : X} {v : Value} (h : Rv w F A x v) (g : Nat) (hg : g ∈ x.refs) : ∃ ra, A g = some ra := by
  cases x with
  | bot => simp [X.refs] at hg
  | tup xs =>
    obtain ⟨vs, _, h1⟩ := h
    exact rvL_refs h1 g (by simpa only [X.refs] using hg)
  | _ => obtain ⟨cs, h1, _⟩ := h; exact rc_refs h1 g hg
theorem Inv.closed {F : Nat → Prop} {A : Nat → Option RA} {S : St} {tm : Nat → Value} {w : World} (h : Inv w0 F0 Pb F A S tm w) : Closed S := by
  intro v g hg hn
  have hr := rv_refs (h.tv v) g hg
  obtain ⟨ra, hA⟩ := hr
  obtain ⟨x, hx⟩ := h.lv g ra hA
  rw [hn] at hx; cases hx
theorem wp_const {o : Oper} {a : Act} {w : World} {C : Act → World → Prop} (h : o.wp P a w C (fun _ _ _ => False)) : ∃ a' w', C a' w' := by
  unfold Oper.wp at h
  generalize (execOp a.eval o).run P w = r at h
  unfold Oper.upon at h
  split at h
  · exact ⟨_, _, h⟩
  · exact ⟨_, _, h⟩
  · exact ⟨_, _, h⟩
  · obtain ⟨e, w', fr, hR, _⟩ := h []
    split at hR
    · exact ⟨_, _, hR⟩
    · exact hR.elim
    · obtain ⟨_, _, hf⟩ := hR; exact hf.elim
  · rename_i row args w' 
    obtain ⟨v, w'', hR, _⟩ := h (Frame.ofRow P row args .normal) []
    exact ⟨_, _, hR⟩
  · exact h.elim
  · exact h.elim
theorem stepD_split {o : Oper} {S S1 : St} (hs : stepD T call an ops S o = some S1) : (opStep T call an S o = some S1 ∧ wantedX ops S o = some true) ∨ (S1 = put S o.dst (.tup []) ∧ wantedX ops S o = some false) := by
  unfold stepD at hs
  split at hs
  · split at hs
    · rename_i hw; exact .inl ⟨hs, hw⟩
    · rename_i hw; cases hs; exact .inr ⟨rfl, hw⟩
    · cases hs
  · rename_i heff
    split at hs
    · rename_i x news hq
      split at hs
      · rename_i r' hr
        cases hs
        unfold qD at hq
        split at hq
        · rename_i hw
          split at hq
          · rename_i z nz hz
            split at hq
            · simp only [Option.some.injEq, Prod.mk.injEq] at hq
              obtain ⟨rfl, rfl⟩ := hq
              refine .inl ⟨?_, hw⟩
              unfold opStep
              rw [if_neg heff]
              simp only [hz, EV.freezeL, hr]
            · cases hq
          · cases hq
        · rename_i hw
          simp only [Option.some.injEq, Prod.mk.injEq] at hq
          obtain ⟨rfl, rfl⟩ := hq
          simp only [addR, Option.some.injEq] at hr
          subst hr
          exact .inr ⟨rfl, hw⟩
        · cases hq
      · cases hs
    · cases hs
theorem stepD_live (hT : TOk P T) (hS : ShOk T) (hc : CallOk P call) {o : Oper} (hd : okDst N o = true) {S S1 : St} (hs : stepD T call an ops S o = some S1) {a : Act} {w : World} (h : InvA w0 F0 Pb N S a w) : ∃ a w, InvA w0 F0 Pb N S1 a w := by
  rcases stepD_split hs with ⟨h1, _⟩ | ⟨rfl, hw⟩
  · exact wp_const (opStep_ok hT hS hc (okDst_lt hd) h1 h _)
  · obtain ⟨h1, h2, F, A, hI⟩ := h
    exact ⟨_, _, put_ok (x := .tup []) (v := undef) hI ⟨[], rfl, by simp [RvL]⟩ h1 h2 (okDst_lt hd)⟩
theorem stepD_ok (hT : TOk P T) (hS : ShOk T) (hc : CallOk P call) {i : Nat} {o : Oper} (ho : ops[i]? = some o) (hd : okDst N o = true) {S S1 : St} (hs : stepD T call an ops S o = some S1) {a : Act} {w : World} (h : InvA w0 F0 Pb N S a w) {K : Act → World → Prop} (hK : ∀ a w, InvA w0 F0 Pb N S1 a w → K a w) : wpOp P ops Q i K a w := by
  unfold wpOp
  simp only [ho]
  have skip : ∀ {S1 : St}, some (put S o.dst (.tup [])) = some S1 → wantedX ops S o = some false → (∀ a w, InvA w0 F0 Pb N S1 a w → K a w) → (if Region.wanted o (yielded ops a.tmps) = true then o.wp P a w K Q ∨ (o.asks P a w ∧ LetsOut Q) else K (a.put o.dst undef) w) := by
    intro S1 he hw hK
    cases he
    rw [if_neg (by rw [wantedX_ok h hw]; simp)]
    obtain ⟨h1, h2, F, A, hI⟩ := h
    exact hK _ _ (put_ok (x := .tup []) hI ⟨[], rfl, by simp [RvL]⟩ h1 h2 (okDst_lt hd))
  have go : opStep T call an S o = some S1 → wantedX ops S o = some true → (if Region.wanted o (yielded ops a.tmps) = true then o.wp P a w K Q ∨ (o.asks P a w ∧ LetsOut Q) else K (a.put o.dst undef) w) := by
    intro he hw
    rw [if_pos (wantedX_ok h hw)]
    exact .inl (upon_mono (opStep_ok hT hS hc (okDst_lt hd) he h Q) hK)
  unfold stepD at hs
  split at hs
  · split at hs
    · rename_i hw; exact go hs hw
    · rename_i hw; exact skip hs hw hK
    · cases hs
  · rename_i heff
    split at hs
    · rename_i x news hq
      split at hs
      · rename_i r' hr
        cases hs
        unfold qD at hq
        split at hq
        · rename_i hw
          split at hq
          · rename_i z nz hz
            split at hq
            · simp only [Option.some.injEq, Prod.mk.injEq] at hq
              obtain ⟨rfl, rfl⟩ := hq
              refine go ?_ hw
              unfold opStep
              rw [if_neg heff]
              simp only [hz, EV.freezeL, hr]
            · cases hq
          · cases hq
        · rename_i hw
          simp only [Option.some.injEq, Prod.mk.injEq] at hq
          obtain ⟨rfl, rfl⟩ := hq
          simp only [addR, Option.some.injEq] at hr
          subst hr
          exact skip rfl hw hK
        · cases hq
      · cases hs
    · cases hs
theorem any_ok (hT : TOk P T) (hS : ShOk T) (hc : CallOk P call) (ho : ∀ o ∈ ops.toList, okDst N o = true) {dep : List (List Nat)} (hdep : ∀ i, i < ops.size → depOk T an ops dep i = true) (hQ : ∀ a w, InvA w0 F0 Pb N S' a w → Q .normal a w) :
    ∀ (fuel : Nat) (L : Array Bool) {S : St} {a : Act} {w : World}, L.size = ops.size → (left ops.size L).length ≤ fuel → (∀ i, i < ops.size → L.getD i true = true → ∀ j ∈ dep.getD i [], L.getD j false = true) → runD T call an ops ((left ops.size L).filterMap (ops[·]?)) S = some S' → InvA w0 F0 Pb N S a w →
      wpAny P .any ops Q fuel L a w := by
  -- nothing is ready: nothing is left
  have none_ready : ∀ (L : Array Bool), L.size = ops.size → Region.ready .any ops L = [] → left ops.size L = [] := by
    intro L hL hr
    cases hl : left ops.size L with
    | nil => rfl
    | cons i l =>
      exfalso
      have hi : i ∈ left ops.size L := by rw [hl]; simp
      have hi2 := List.mem_filter.1 hi
      have hlt : i < ops.size := by simpa using hi2.1
      have hmin : ∀ j, j < i → L.getD j false = true := by
        intro j hj
        have hnot : j ∉ left ops.size L := by
          intro hm
          have hs : (left ops.size L).Pairwise (· < ·) := List.Pairwise.filter _ List.pairwise_lt_range
          rw [hl] at hs hm
          rcases List.mem_cons.1 hm with rfl | hm
          · omega
          · have := (List.pairwise_cons.1 hs).1 j hm
            omega
        have hjn : j < ops.size := by omega
        have : ¬ (!L.getD j true) = true := fun h => hnot (List.mem_filter.2 ⟨by simpa using hjn, h⟩)
        simp only [Array.getD_eq_getD_getElem?] at this ⊢
        have hjl : j < L.size := by omega
        simp [hjl] at this ⊢
        exact this
      have hd := hdep i hlt
      unfold depOk at hd
      have hoi : ops[i]? = some ops[i] := by simp [hlt]
      simp only [hoi, Bool.and_eq_true, List.all_eq_true, decide_eq_true_eq] at hd
      have : i ∈ Region.ready .any ops L := by
        unfold Region.ready
        refine List.mem_filter.2 ⟨hi2.1, ?_⟩
        rw [hoi]
        simp only [Option.map_some, Option.getD_some, Bool.and_eq_true]
        refine ⟨hi2.2, ?_⟩
        rw [Array.all_eq_true']
        intro e he
        cases hb : Region.binds .any e with
        | false => simp
        | true =>
          simp only [Bool.not_true, Bool.false_or]
          exact hmin e.on (hd.1.1.1 e.on (List.mem_map.2 ⟨e, List.mem_filter.2 ⟨by simpa using he, hb⟩, rfl⟩))
      rw [hr] at this
      simp at this
  intro fuel
  induction fuel with
  | zero =>
    intro L S a w hL hlen _ hr h
    have hl : left ops.size L = [] := List.eq_nil_of_length_eq_zero (by omega)
    rw [hl] at hr
    simp only [List.filterMap_nil, runD, Option.some.injEq] at hr
    subst hr
    refine ⟨?_, hQ a w h⟩
    cases hrd : Region.ready .any ops L with
    | nil => rfl
    | cons i l =>
      exfalso
      have : i ∈ Region.ready .any ops L := by rw [hrd]; simp
      unfold Region.ready at this
      have h2 := List.mem_filter.1 this
      simp only [Bool.and_eq_true] at h2
      have : i ∈ left ops.size L := List.mem_filter.2 ⟨h2.1, h2.2.1⟩
      rw [hl] at this; simp at this
  | succ fuel ih =>
    intro L S a w hL hlen hclosed hr h
    refine ⟨fun hnr => ?_, fun i hi => ?_⟩
    · rw [none_ready L hL hnr] at hr
      simp only [List.filterMap_nil, runD, Option.some.injEq] at hr
      subst hr
      exact hQ a w h
    · unfold Region.ready at hi
      have h2 := List.mem_filter.1 hi
      simp only [Bool.and_eq_true] at h2
      have hlt : i < ops.size := by simpa using h2.1
      have hoi : ops[i]? = some ops[i] := by simp [hlt]
      rw [hoi] at h2
      simp only [Option.map_some, Option.getD_some] at h2
      have hil : i ∈ left ops.size L := List.mem_filter.2 ⟨h2.1, h2.2.1⟩
      have hd := hdep i hlt
      unfold depOk at hd
      simp only [hoi, Bool.and_eq_true, List.all_eq_true, decide_eq_true_eq, Bool.or_eq_true] at hd
      have hdirect : ∀ j ∈ direct ops[i], L.getD j false = true := by
        intro j hj
        obtain ⟨e, he, rfl⟩ := List.mem_map.1 hj
        have he2 := List.mem_filter.1 he
        have := (Array.all_eq_true'.1 h2.2.2) e (by simpa using he2.1)
        rw [he2.2] at this
        simpa using this
      have getDs : ∀ j, L.getD j false = true → j < ops.size ∧ L.getD j true = true := by
        intro j hj
        simp only [Array.getD_eq_getD_getElem?] at hj ⊢
        cases hq : L[j]? with
        | none => rw [hq] at hj; simp at hj
        | some b =>
          have := (Array.getElem?_eq_some_iff.1 hq).1
          rw [hq] at hj
          exact ⟨by omega, by simpa using hj⟩
      have hdepl : ∀ j ∈ dep.getD i [], L.getD j false = true := by
        intro j hj
        rcases hd.1.1.2 j hj with h3 | h3
        · exact hdirect j (by simpa using h3)
        · obtain ⟨m, hm, hjm⟩ := List.any_eq_true.1 h3
          obtain ⟨q1, q2⟩ := getDs m (hdirect m hm)
          exact hclosed m q1 q2 j (by simpa using hjm)
      obtain ⟨l1, l2, hsplit⟩ := List.append_of_mem hil
      have hnd : (left ops.size L).Nodup := List.Pairwise.filter _ List.nodup_range
      have hpw : (left ops.size L).Pairwise (· < ·) := List.Pairwise.filter _ List.pairwise_lt_range
      rw [hsplit] at hnd hpw
      have hnodep : ∀ x ∈ l1, x < i ∧ ¬ (dep.getD i []).contains x = true := by
        intro x hx
        have hxi : x < i := (List.pairwise_append.1 hpw).2.2 x hx i (by simp)
        have hxl : x ∈ left ops.size L := by rw [hsplit]; simp [hx]
        have hxn := (List.mem_filter.1 hxl).2
        refine ⟨hxi, fun h5 => ?_⟩
        have := (getDs x (hdepl x (by simpa using h5))).2
        rw [this] at hxn; simp at hxn
      have hsw : ∀ x ∈ l1.filterMap (ops[·]?), swapOk T an ops x ops[i] = true ∧ x ∈ ops.toList ∧ ∃ j, ops[j]? = some x ∧ dirs ops[i] j = false := by
        intro ox hox
        obtain ⟨x, hx, hxo⟩ := List.mem_filterMap.1 hox
        obtain ⟨hxi, hnd⟩ := hnodep x hx
        have h5 := hd.1.2 x (by simpa using hxi)
        rw [hxo] at h5
        rcases h5 with h5 | h5
        · exact absurd h5 hnd
        · simp only [Bool.and_eq_true, Bool.not_eq_true'] at h5
          exact ⟨h5.1, List.mem_of_getElem? (by rw [Array.getElem?_toList]; exact hxo), x, hxo, h5.2⟩
      have hov : isStore ops[i].op = true → (∀ x ∈ l1.filterMap (ops[·]?), Over ops x x) ∧ (l1.filterMap (ops[·]?)).Pairwise (Over ops) := by
        intro hst
        have h6 := hd.2.resolve_left (by rw [hst]; simp)
        have pair : ∀ x ∈ l1, ∀ y ∈ l1, x ≤ y → ∀ ox oy, ops[x]? = some ox → ops[y]? = some oy → Over ops ox oy := by
          intro x hx y hy hxy ox oy hox hoy d hd2 hin
          obtain ⟨x1, x2⟩ := hnodep x hx
          obtain ⟨y1, y2⟩ := hnodep y hy
          have h7 := (h6 x (by simpa using x1)).resolve_left x2 y (by simpa using y1)
          have h8 := h7.resolve_left (by rintro (h | h); omega; exact y2 h)
          unfold overB at h8
          rw [hox, hoy] at h8
          simp only [hd2] at h8
          simp at h8
          exact h8 hin
        refine ⟨fun ox hox => ?_, ?_⟩
        · obtain ⟨x, hx, hxo⟩ := List.mem_filterMap.1 hox
          exact pair x hx x hx (Nat.le_refl _) ox ox hxo hxo
        · refine List.Pairwise.filterMap (R := fun a b => a ∈ l1 ∧ b ∈ l1 ∧ a ≤ b) _ (fun a b hab ox hox oy hoy => pair a hab.1 b hab.2.1 hab.2.2 ox oy hox hoy) ?_
          exact List.Pairwise.imp_of_mem (fun {a b} ha hb hlt => ⟨ha, hb, Nat.le_of_lt hlt⟩) (List.pairwise_append.1 hpw).1
      rw [hsplit, List.filterMap_append, List.filterMap_cons, hoi] at hr
      obtain ⟨_, S1, _, _, _, hs1, hr1⟩ := bubble (Lv := fun S => ∃ a w, InvA w0 F0 Pb N S a w) (fun S ⟨a, w, _, _, F, A, hI⟩ => hI.closed) (fun S S1 x hx ⟨a, w, hI⟩ hst => stepD_live hT hS hc (ho x hx) hst hI) hsw hov ⟨a, w, h⟩ hr
      rw [← List.filterMap_append] at hr1
      have hl' : left ops.size (L.setIfInBounds i true) = l1 ++ l2 := by rw [left_set hL hlt, hsplit, filter_ne hnd]
      refine stepD_ok hT hS hc hoi (ho _ (by simp)) hs1 h fun a' w' h' => ih (L.setIfInBounds i true) (by simpa using hL) ?_ (fun k hk hkl j hj => ?_) (by rw [hl']; exact hr1) h'
      · rw [hl']
        rw [hsplit] at hlen
        simp at hlen ⊢
        omega
      · have up : ∀ j, L.getD j false = true → (L.setIfInBounds i true).getD j false = true := by
          intro j hj
          by_cases e : j = i
          · subst e; simp [Array.getD_eq_getD_getElem?, hL, hlt]
          · simp only [Array.getD_eq_getD_getElem?] at hj ⊢
            rw [Array.getElem?_setIfInBounds]
            simp [Ne.symm e]
            simpa using hj
        by_cases e : k = i
        · subst e; exact up j (hdepl j hj)
        · have : L.getD k true = true := by
            simp only [Array.getD_eq_getD_getElem?] at hkl ⊢
            rw [Array.getElem?_setIfInBounds] at hkl
            simpa [Ne.symm e] using hkl
          exact up j (hclosed k hk this j hj)
theorem filterMap_range {α : Type} (ops : Array α) : (List.range ops.size).filterMap (ops[·]?) = ops.toList := by
  have : ∀ (l : List α), (List.range l.length).filterMap (l[·]?) = l := by
    intro l
    induction l with
    | nil => rfl
    | cons x l ih =>
      rw [List.length_cons, List.range_succ_eq_map, List.filterMap_cons]
      simp only [List.getElem?_cons_zero, List.filterMap_map]
      congr 1
  have h2 := this ops.toList
  simpa using h2
theorem draw_ok (hm : P.follows .mixedOrders = true) (hT : TOk P T) (hS : ShOk T) (hc : CallOk P call) (hd : drawChk T an ops = true) (ho : ∀ o ∈ ops.toList, okDst N o = true) {S : St} (hr : runD T call an ops ops.toList S = some S') (hQ : ∀ a w, InvA w0 F0 Pb N S' a w → Q .normal a w)
    {a : Act} {w : World} (h : InvA w0 F0 Pb N S a w) (id : Nat) : (Code.region id ops true).wp P Q a w := by
  refine wp_region_any hm (any_ok (S := S) hT hS hc ho (dep := clos ops.toList []) (fun i hi => List.all_eq_true.1 hd i (by simpa using hi)) hQ ops.size _ (by simp) ?_ ?_ ?_ ?_)
  · unfold left; exact Nat.le_trans (List.length_filter_le _ _) (by simp)
  · intro i hi hl
    exfalso
    simp [Array.getD_eq_getD_getElem?, hi] at hl
  · have : left ops.size (Array.replicate ops.size false) = List.range ops.size := by
      unfold left
      refine List.filter_eq_self.2 fun i hi => ?_
      have : i < ops.size := by simpa using hi
      simp [Array.getD_eq_getD_getElem?, this]
    rw [this, filterMap_range]
    exact hr
  · obtain ⟨h1, h2, F, A, h3⟩ := h
    exact ⟨h1, h2, F, A, h3.grow ((Below.refl _ _).drew)⟩
end
end Go.EV
