/- Calls of functions that write nothing of what they are handed; what comes back gets names. -/
import Derived.Test.YtfadalgikdffeaaGreatEv11
set_option linter.unusedVariables false
set_option linter.unusedSimpArgs false
namespace Go.EV
open Go.RowKit
mutual
/-- A value that goes over, with the blocks that go over with it. -/
def Ro (w : World) (F : Nat → Prop) : X → List Value → List Nat → Prop
  | .ag xs, cs, bs => RoL w F xs cs bs
  | .ow d xs, cs, bs => ∃ a c, cs = [.slice a xs.length c] ∧ xs.length ≤ c ∧ ((c = 0 ∧ bs = []) ∨ ∃ b o cs', a = some ⟨b, o, none⟩ ∧ bs = [b] ∧ RfE w F d xs cs' ∧ Own w b o cs' (c * d))
  | .ob x, cs, bs => ∃ b o c bs', cs = [.pointer (some ⟨b, o, none⟩)] ∧ bs = b :: bs' ∧ Ro w F x c bs' ∧ x.arD = none ∧ 0 < x.size ∧ Own w b o c x.size
  | .b v, cs, bs => bs = [] ∧ Rf w F (.b v) cs | .i k n, cs, bs => bs = [] ∧ Rf w F (.i k n) cs | .s l, cs, bs => bs = [] ∧ Rf w F (.s l) cs | .ar d xs, cs, bs => bs = [] ∧ Rf w F (.ar d xs) cs
  | .sl f xs, cs, bs => bs = [] ∧ Rf w F (.sl f xs) cs | .np, cs, bs => bs = [] ∧ Rf w F .np cs | .pf x, cs, bs => bs = [] ∧ Rf w F (.pf x) cs | .nm, cs, bs => bs = [] ∧ Rf w F .nm cs | .nf, cs, bs => bs = [] ∧ Rf w F .nf cs
  | .bot, _, _ | .tup _, _, _ | .hw _, _, _ | .hd _ _ _ _, _, _ | .pt _ _ _, _, _ | .fn _ _, _, _ => False
def RoL (w : World) (F : Nat → Prop) : List X → List Value → List Nat → Prop
  | [], cs, bs => cs = [] ∧ bs = []
  | x :: xs, cs, bs => ∃ c1 c2 b1 b2, cs = c1 ++ c2 ∧ bs = b1 ++ b2 ∧ Ro w F x c1 b1 ∧ RoL w F xs c2 b2
end
def RoVL (w : World) (F : Nat → Prop) : List X → List Value → List Nat → Prop
  | [], vs, bs => vs = [] ∧ bs = []
  | x :: xs, vs, bs => ∃ v vs' cs b1 b2, vs = v :: vs' ∧ bs = b1 ++ b2 ∧ Ro w F x cs b1 ∧ v = val x cs ∧ RoVL w F xs vs' b2
def RoV (w : World) (F : Nat → Prop) (x : X) (v : Value) (bs : List Nat) : Prop :=
  match x with
  | .tup xs => ∃ vs, v = .tuple vs.toArray ∧ RoVL w F xs vs bs
  | x => ∃ cs, Ro w F x cs bs ∧ v = val x cs
mutual
theorem size_imp (nm : Nat → Nat) : ∀ (j : Nat) (x : X), x.isTup = false → (imp nm j x).1.size = x.size ∧ (imp nm j x).1.arD = x.arD
  | j, .ag xs, _ => by simp only [imp, X.size, X.arD]; exact ⟨sizeL_imp nm j xs, trivial⟩
  | j, .tup xs, h => by simp [X.isTup] at h
  | j, .b v, _ | j, .i k n, _ | j, .s l, _ | j, .ar d xs, _ | j, .sl f xs, _ | j, .np, _ | j, .pf x, _ | j, .nm, _ | j, .nf, _ | j, .bot, _ | j, .ow d xs, _ | j, .ob x, _ => by simp [imp, X.size, X.arD]
  | j, .hw g, _ | j, .hd g lo len f, _ | j, .pt g o p, _ | j, .fn f c, _ => by simp [imp, X.size, X.arD]
theorem sizeL_imp (nm : Nat → Nat) : ∀ (j : Nat) (xs : List X), sizeL (impL nm j xs).1 = sizeL xs
  | j, [] => rfl
  | j, x :: xs => by
    simp only [impL, sizeL, sizeL_imp nm _ xs]
    cases hx : x.isTup with
    | false => rw [(size_imp nm j x hx).1]
    | true => cases x <;> simp [X.isTup] at hx; simp [imp, X.size]
end
theorem agg_imp (nm : Nat → Nat) (j : Nat) (x : X) : (imp nm j x).1.agg = x.agg := by
  cases x <;> simp [imp, X.agg]
theorem addR_append {lim : Nat} : ∀ (l1 l2 : List (Nat × X)) (r : Nat → Option X), addR lim r (l1 ++ l2) = (addR lim r l1).bind fun r1 => addR lim r1 l2
  | [], l2, r => rfl
  | (g, x) :: l1, l2, r => by
    simp only [List.cons_append, addR]
    split
    · exact addR_append l1 l2 _
    · rfl
section
variable {w0 : World} {F0 F : Nat → Prop} {Pb : PB} {tm : Nat → Value} {w : World} {nm : Nat → Nat} {lim : Nat}
/-- The blocks bs are free to be taken over. -/
def Free (w0 : World) (Pb : PB) (F : Nat → Prop) (w : World) (A : Nat → Option RA) (bs : List Nat) : Prop :=
  bs.Nodup ∧ ∀ b ∈ bs, ¬ F b ∧ b < w.heap.size ∧ (b < w0.heap.size → Pb b) ∧ ∀ k rb, A k = some rb → 0 < rb.cap → rb.b ≠ b
theorem Free.left {A : Nat → Option RA} {b1 b2 : List Nat} (h : Free w0 Pb F w A (b1 ++ b2)) : Free w0 Pb F w A b1 :=
  ⟨(List.nodup_append.1 h.1).1, fun b hb => h.2 b (List.mem_append.2 (.inl hb))⟩
theorem Free.right {A A' : Nat → Option RA} {b1 b2 : List Nat} (h : Free w0 Pb F w A (b1 ++ b2)) (hA : ∀ k rb, A' k = some rb → 0 < rb.cap → A k = some rb ∨ rb.b ∈ b1) : Free w0 Pb F w A' b2 := by
  have hn := List.nodup_append.1 h.1
  refine ⟨hn.2.1, fun b hb => ?_⟩
  obtain ⟨h1, h2, h3, h4⟩ := h.2 b (List.mem_append.2 (.inr hb))
  refine ⟨h1, h2, h3, fun k rb hk hc => ?_⟩
  rcases hA k rb hk hc with hk | hk
  · exact h4 k rb hk hc
  · exact hn.2.2 _ hk _ hb
mutual
theorem imp_ok (hp : ∀ g ra, g < lim → nlim ≤ g → Pb.pin g ra) : ∀ {x : X} {j : Nat} {cs : List Value} {bs : List Nat} {S : St} {A : Nat → Option RA} {r' : Nat → Option X}, Inv w0 F0 Pb F A S tm w → Ro w F x cs bs → Free w0 Pb F w A bs → addR lim S.r (imp nm j x).2.1 = some r' →
    ∃ A', Inv w0 F0 Pb F A' { S with r := r' } tm w ∧ ASub A A' ∧ Rc w F A' (imp nm j x).1 cs ∧ (∀ k rb, A' k = some rb → 0 < rb.cap → A k = some rb ∨ rb.b ∈ bs)
  | .ag xs, j, cs, bs, S, A, r', h, hr, hf, ha => by
    simp only [Ro] at hr
    simp only [imp] at ha ⊢
    obtain ⟨A', h1, h2, h3, h4⟩ := impL_ok hp h hr hf ha
    exact ⟨A', h1, h2, by simpa only [Rc] using h3, h4⟩
  | .ow d xs, j, cs, bs, S, A, r', h, hr, hf, ha => by
    simp only [imp] at ha ⊢
    obtain ⟨hg, hgl, rfl⟩ := add1 ha
    simp only [Ro] at hr
    obtain ⟨a, c, rfl, hlc, hr⟩ := hr
    have hk : Keeps F w w := fun _ _ => rfl
    have hAg : A (nm j) = none := by
      cases hA : A (nm j) with
      | none => rfl
      | some rb => obtain ⟨y, hy⟩ := h.lv _ rb hA; rw [hg] at hy; cases hy
    have hsub : ∀ ra, ASub A (upd A (nm j) (some ra)) := fun ra k rb hk => by
      unfold upd
      by_cases e : k = nm j
      · subst e; rw [hAg] at hk; cases hk
      · simpa [e] using hk
    rcases hr with ⟨rfl, rfl⟩ | ⟨b, o, cs', rfl, rfl, hrf, hown⟩
    · have hx : xs = [] := List.eq_nil_of_length_eq_zero (by omega)
      subst hx
      refine ⟨upd A (nm j) (some ⟨0, 0, 0, d, 0⟩), h.add hg (c := []) ⟨by simp [Rc, Rf, RfE], by simp, ⟨rfl, rfl⟩, fun h => by simp at h⟩ (fun h => by simp at h) (hp _ _ hgl), hsub _, ?_, fun k rb hk hc => ?_⟩
      · simp only [Rc]
        exact ⟨⟨0, 0, 0, d, 0⟩, a, 0, by simp [upd], by simp, by simp, by simp, .inl rfl⟩
      · unfold upd at hk
        by_cases e : k = nm j
        · subst e; simp at hk; subst hk; simp at hc
        · simp only [e, if_false] at hk; exact .inl hk
    · obtain ⟨f1, f2, f3, f4⟩ := hf.2 b (by simp)
      refine ⟨upd A (nm j) (some ⟨b, o, c, d, xs.length⟩), h.add hg (c := cs') ⟨by simpa only [Rc, Rf] using hrf, hlc, ⟨rfl, rfl⟩, fun _ => hown⟩ (fun hc => ⟨f2, f3, f1, fun k rb hk hc' => Ne.symm (f4 k rb hk hc')⟩) (hp _ _ hgl), hsub _, ?_, fun k rb hk hc => ?_⟩
      · simp only [Rc]
        exact ⟨⟨b, o, c, d, xs.length⟩, _, c, by simp [upd], rfl, hlc, Nat.le_refl _, .inr rfl⟩
      · unfold upd at hk
        by_cases e : k = nm j
        · subst e; simp at hk; subst hk; right; simp
        · simp only [e, if_false] at hk; exact .inl hk
  | .ob x, j, cs, bs, S, A, r', h, hr, hf, ha => by
    simp only [imp] at ha ⊢
    rw [addR_append] at ha
    obtain ⟨r1, ha1, ha2⟩ := Option.bind_eq_some_iff.1 ha
    obtain ⟨hg, hgl, rfl⟩ := add1 (S1 := { S with r := r1 }) ha2
    simp only [Ro] at hr
    obtain ⟨b, o, c, bs', rfl, rfl, hrx, har, hsz, hown⟩ := hr
    have hf' : Free w0 Pb F w A ([b] ++ bs') := hf
    have hnt : x.isTup = false := by cases x <;> simp_all [X.isTup, Ro]
    obtain ⟨A1, h1, h2, h3, h4⟩ := imp_ok hp h hrx (hf'.right (A' := A) (fun k rb hk hc => .inl hk)) ha1
    obtain ⟨f1, f2, f3, f4⟩ := hf.2 b (by simp)
    have hnb : b ∉ bs' := (List.nodup_cons.1 hf.1).1
    obtain ⟨e1, e2⟩ := size_imp nm (j + 1) x hnt
    have hA1 : A1 (nm j) = none := by
      cases hA : A1 (nm j) with
      | none => rfl
      | some rb => obtain ⟨y, hy⟩ := h1.lv _ rb hA; simp only at hg hy; rw [hg] at hy; cases hy
    have hsub : ∀ ra, ASub A1 (upd A1 (nm j) (some ra)) := fun ra k rb hk => by
      unfold upd
      by_cases e : k = nm j
      · subst e; rw [hA1] at hk; cases hk
      · simpa [e] using hk
    have hra : raOf b o (imp nm (j + 1) x).1 = ⟨b, o, 1, x.size, 0⟩ := by unfold raOf; rw [e2, har, e1]
    refine ⟨upd A1 (nm j) (some (raOf b o (imp nm (j + 1) x).1)), h1.add hg (c := c) ⟨rc_mono (fun _ h => h) (fun _ _ => rfl) (hsub _) h3, raOf_n _ _ _, raOf_dim _ _ _, fun _ => by rw [hra]; simpa using hown⟩ (fun hc => ?_) (hp _ _ hgl), fun k rb hk => hsub _ k rb (h2 k rb hk), ?_, fun k rb hk hc => ?_⟩
    · rw [raOf_b]
      refine ⟨f2, f3, f1, fun k rb hk hc' => ?_⟩
      rcases h4 k rb hk hc' with h5 | h5
      · exact Ne.symm (f4 k rb h5 hc')
      · intro e; rw [e] at hnb; exact hnb h5
    · simp only [Rc]
      refine ⟨raOf b o (imp nm (j + 1) x).1, by simp [upd], by rw [hra]; simp, by rw [hra]; rfl⟩
    · unfold upd at hk
      by_cases e : k = nm j
      · subst e; simp at hk; subst hk; right; rw [raOf_b]; simp
      · simp only [e, if_false] at hk
        rcases h4 k rb hk hc with h5 | h5
        · exact .inl h5
        · right; simp [h5]
  | .b v, j, cs, bs, S, A, r', h, hr, hf, ha | .i k n, j, cs, bs, S, A, r', h, hr, hf, ha | .s l, j, cs, bs, S, A, r', h, hr, hf, ha | .ar d xs, j, cs, bs, S, A, r', h, hr, hf, ha | .sl f xs, j, cs, bs, S, A, r', h, hr, hf, ha
  | .np, j, cs, bs, S, A, r', h, hr, hf, ha | .pf x, j, cs, bs, S, A, r', h, hr, hf, ha | .nm, j, cs, bs, S, A, r', h, hr, hf, ha | .nf, j, cs, bs, S, A, r', h, hr, hf, ha => by
    simp only [imp, addR, Option.some.injEq] at ha ⊢
    subst ha
    simp only [Ro] at hr
    exact ⟨A, h, fun _ _ h => h, rf_rc hr.2, fun k rb hk _ => .inl hk⟩
  | .bot, j, cs, bs, S, A, r', h, hr, hf, ha | .tup _, j, cs, bs, S, A, r', h, hr, hf, ha | .hw _, j, cs, bs, S, A, r', h, hr, hf, ha | .hd _ _ _ _, j, cs, bs, S, A, r', h, hr, hf, ha | .pt _ _ _, j, cs, bs, S, A, r', h, hr, hf, ha | .fn _ _, j, cs, bs, S, A, r', h, hr, hf, ha => by simp [Ro] at hr
theorem impL_ok (hp : ∀ g ra, g < lim → nlim ≤ g → Pb.pin g ra) : ∀ {xs : List X} {j : Nat} {cs : List Value} {bs : List Nat} {S : St} {A : Nat → Option RA} {r' : Nat → Option X}, Inv w0 F0 Pb F A S tm w → RoL w F xs cs bs → Free w0 Pb F w A bs → addR lim S.r (impL nm j xs).2.1 = some r' →
    ∃ A', Inv w0 F0 Pb F A' { S with r := r' } tm w ∧ ASub A A' ∧ RcL w F A' (impL nm j xs).1 cs ∧ (∀ k rb, A' k = some rb → 0 < rb.cap → A k = some rb ∨ rb.b ∈ bs)
  | [], j, cs, bs, S, A, r', h, hr, hf, ha => by
    simp only [impL, addR, Option.some.injEq] at ha ⊢
    subst ha
    simp only [RoL] at hr
    exact ⟨A, h, fun _ _ h => h, by simp [RcL, hr.1], fun k rb hk _ => .inl hk⟩
  | x :: xs, j, cs, bs, S, A, r', h, hr, hf, ha => by
    simp only [impL] at ha ⊢
    rw [addR_append] at ha
    obtain ⟨r1, ha1, ha2⟩ := Option.bind_eq_some_iff.1 ha
    simp only [RoL] at hr
    obtain ⟨c1, c2, b1, b2, rfl, rfl, hr1, hr2⟩ := hr
    obtain ⟨A1, h1, s1, q1, p1⟩ := imp_ok hp h hr1 hf.left ha1
    obtain ⟨A2, h2, s2, q2, p2⟩ := impL_ok hp h1 hr2 (hf.right p1) ha2
    refine ⟨A2, h2, fun k rb hk => s2 k rb (s1 k rb hk), ?_, fun k rb hk hc => ?_⟩
    · simp only [RcL]
      exact ⟨c1, c2, rfl, rc_mono (fun _ h => h) (fun _ _ => rfl) s2 q1, q2⟩
    · rcases p2 k rb hk hc with h5 | h5
      · rcases p1 k rb h5 hc with h6 | h6
        · exact .inl h6
        · right; simp [h6]
      · right; simp [h5]
end
theorem impVL_ok (hp : ∀ g ra, g < lim → nlim ≤ g → Pb.pin g ra) : ∀ {xs : List X} {j : Nat} {vs : List Value} {bs : List Nat} {S : St} {A : Nat → Option RA} {r' : Nat → Option X}, Inv w0 F0 Pb F A S tm w → RoVL w F xs vs bs → Free w0 Pb F w A bs → addR lim S.r (impL nm j xs).2.1 = some r' →
    ∃ A', Inv w0 F0 Pb F A' { S with r := r' } tm w ∧ ASub A A' ∧ RvL w F A' (impL nm j xs).1 vs ∧ (∀ k rb, A' k = some rb → 0 < rb.cap → A k = some rb ∨ rb.b ∈ bs)
  | [], j, cs, bs, S, A, r', h, hr, hf, ha => by
    simp only [impL, addR, Option.some.injEq] at ha ⊢
    subst ha
    simp only [RoVL] at hr
    exact ⟨A, h, fun _ _ h => h, by simp [RvL, hr.1], fun k rb hk _ => .inl hk⟩
  | x :: xs, j, cs, bs, S, A, r', h, hr, hf, ha => by
    simp only [impL] at ha ⊢
    rw [addR_append] at ha
    obtain ⟨r1, ha1, ha2⟩ := Option.bind_eq_some_iff.1 ha
    simp only [RoVL] at hr
    obtain ⟨v, vs', c1, b1, b2, rfl, rfl, hr1, hv, hr2⟩ := hr
    obtain ⟨A1, h1, s1, q1, p1⟩ := imp_ok hp h hr1 hf.left ha1
    obtain ⟨A2, h2, s2, q2, p2⟩ := impVL_ok hp h1 hr2 (hf.right p1) ha2
    refine ⟨A2, h2, fun k rb hk => s2 k rb (s1 k rb hk), ?_, fun k rb hk hc => ?_⟩
    · simp only [RvL]
      exact ⟨.inr ⟨c1, rc_mono (fun _ h => h) (fun _ _ => rfl) s2 q1, by rw [hv]; simp [val, agg_imp]⟩, q2⟩
    · rcases p2 k rb hk hc with h5 | h5
      · rcases p1 k rb h5 hc with h6 | h6
        · exact .inl h6
        · right; simp [h6]
      · right; simp [h5]
theorem impV_ok (hp : ∀ g ra, g < lim → nlim ≤ g → Pb.pin g ra) {x : X} {j : Nat} {v : Value} {bs : List Nat} {S : St} {A : Nat → Option RA} {r' : Nat → Option X} (h : Inv w0 F0 Pb F A S tm w) (hr : RoV w F x v bs) (hf : Free w0 Pb F w A bs) (ha : addR lim S.r (imp nm j x).2.1 = some r') :
    ∃ A', Inv w0 F0 Pb F A' { S with r := r' } tm w ∧ ASub A A' ∧ Rv w F A' (imp nm j x).1 v ∧ (∀ k rb, A' k = some rb → 0 < rb.cap → A k = some rb ∨ rb.b ∈ bs) := by
  unfold RoV at hr
  split at hr
  · obtain ⟨vs, rfl, hr⟩ := hr
    simp only [imp] at ha ⊢
    obtain ⟨A', h1, h2, h3, h4⟩ := impVL_ok hp h hr hf ha
    exact ⟨A', h1, h2, ⟨vs, rfl, h3⟩, h4⟩
  · obtain ⟨cs, hr, rfl⟩ := hr
    obtain ⟨A', h1, h2, h3, h4⟩ := imp_ok hp h hr hf ha
    exact ⟨A', h1, h2, R1.rv ⟨cs, h3, by simp [val, agg_imp]⟩, h4⟩
end
end Go.EV
