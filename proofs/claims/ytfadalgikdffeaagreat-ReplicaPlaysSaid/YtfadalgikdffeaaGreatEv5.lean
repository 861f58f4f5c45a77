/- The state of a walk, and the operations that change nothing but their slot. -/
import Derived.Test.YtfadalgikdffeaaGreatEv4
import Derived.Deep.Slices
set_option linter.unusedVariables false
set_option linter.unusedSimpArgs false
namespace Go.EV
open Go.RowKit

def Own (w : World) (b o : Nat) (c : List Value) (m : Nat) : Prop :=
  ∃ all e fz, w.heap[b]? = some (.cells all e fz) ∧ (∀ (j : Nat) u, c[j]? = some u → all[o + j]? = some u) ∧ o + m ≤ all.size ∧ (∀ j, fz.1 ≤ j → j < fz.2 → all.size ≤ j)
def dimOk (ra : RA) : X → Prop
  | .ar d xs => ra.d = d ∧ ra.n = xs.length
  | x => ra.cap = 1 ∧ ra.d = x.size
theorem dimOk_congr {ra : RA} {x y : X} (h1 : y.arD = x.arD) (h2 : y.size = x.size) (h : dimOk ra x) : dimOk ra y := by
  have key : ∀ z : X, dimOk ra z ↔ (match z.arD with | some (d, n) => ra.d = d ∧ ra.n = n | none => ra.cap = 1 ∧ ra.d = z.size) := by
    intro z
    cases z <;> simp [dimOk, X.arD]
  rw [key] at h ⊢
  rw [h1, h2]
  exact h
structure RootOk (w : World) (F : Nat → Prop) (A : Nat → Option RA) (ra : RA) (x : X) (c : List Value) : Prop where
  rc : Rc w F A x c
  cap : ra.n ≤ ra.cap
  dim : dimOk ra x
  own : 0 < ra.cap → Own w ra.b ra.o c (ra.cap * ra.d)
/-- The blocks that come over with the parameters; what a name of theirs may mean. -/
structure PB where
  p : Nat → Prop
  pin : Nat → RA → Prop
instance : CoeFun PB (fun _ => Nat → Prop) := ⟨PB.p⟩
def PB.none : PB := ⟨fun _ => False, fun _ _ => True⟩
/-- A block stays as large as it is. -/
def Shape (w w' : World) : Prop := ∀ (b : Nat) all e fz, w.heap[b]? = some (.cells all e fz) → ∃ all', w'.heap[b]? = some (.cells all' e fz) ∧ all'.size = all.size
theorem Shape.refl (w : World) : Shape w w := fun b all e fz h => ⟨all, h, rfl⟩
theorem Shape.trans {w w1 w2 : World} (h1 : Shape w w1) (h2 : Shape w1 w2) : Shape w w2 := fun b all e fz h => by
  obtain ⟨a1, e1, s1⟩ := h1 b all e fz h
  obtain ⟨a2, e2, s2⟩ := h2 b a1 e fz e1
  exact ⟨a2, e2, s2.trans s1⟩
theorem Shape.below {w w' : World} (h : Below w.heap.size w w') : Shape w w' := fun b all e fz hb =>
  ⟨all, (h.block b (Array.getElem?_eq_some_iff.1 hb).1).trans hb, rfl⟩
theorem nl {g : Nat} {p : Prop} (h : g < nlim) : nlim ≤ g → p := fun h' => absurd h' (by omega)
structure Inv (w0 : World) (F0 : Nat → Prop) (Pb : PB) (F : Nat → Prop) (A : Nat → Option RA) (S : St) (tm : Nat → Value) (w : World) : Prop where
  os : w.os = w0.os
  tape : w.tape = w0.tape
  output : w.output = w0.output
  size : w0.heap.size ≤ w.heap.size
  keep : ∀ b, b < w0.heap.size → ¬ Pb b → w.heap[b]? = w0.heap[b]?
  fo : ∀ b, F b → b < w.heap.size ∧ (b < w0.heap.size → F0 b ∨ Pb b)
  tv : ∀ v, Rv w F A (S.t v) (tm v)
  rv : ∀ g x, S.r g = some x → ∃ ra c, A g = some ra ∧ RootOk w F A ra x c
  lv : ∀ g ra, A g = some ra → ∃ x, S.r g = some x
  sep : ∀ g h ra rb, A g = some ra → A h = some rb → g ≠ h → 0 < ra.cap → 0 < rb.cap → ra.b ≠ rb.b
  nw : ∀ g ra, A g = some ra → 0 < ra.cap → ra.b < w.heap.size ∧ (ra.b < w0.heap.size → Pb ra.b) ∧ ¬ F ra.b
  pin : ∀ g ra, A g = some ra → nlim ≤ g → Pb.pin g ra
  shape : Shape w0 w
section
variable {w0 : World} {F0 F : Nat → Prop} {Pb : PB} {A : Nat → Option RA} {S : St} {tm : Nat → Value} {w : World}
theorem Own.mem {b o : Nat} {c : List Value} {m : Nat} (h : Own w b o c m) : MemAt w b o c := by
  obtain ⟨all, e, fz, h1, h2, _⟩ := h
  intro j u hu
  simp [World.cell?, h1, h2 j u hu]
theorem Own.congr {w' : World} {b o : Nat} {c : List Value} {m : Nat} (h : Own w b o c m) (hb : w'.heap[b]? = w.heap[b]?) : Own w' b o c m := by
  obtain ⟨all, e, fz, h1, h2⟩ := h
  exact ⟨all, e, fz, hb.trans h1, h2⟩
theorem Inv.keeps (h : Inv w0 F0 Pb F A S tm w) {w' : World} (hb : Below w.heap.size w w') : Keeps F w w' := fun b hb' => hb.block b (h.fo b hb').1
theorem ASub.refl (A : Nat → Option RA) : ASub A A := fun _ _ h => h
theorem RootOk.mono {w' : World} {F' : Nat → Prop} {A' : Nat → Option RA} (hF : ∀ b, F b → F' b) (hk : Keeps F w w') (hA : ASub A A') {ra : RA} {x : X} {c : List Value} (h : RootOk w F A ra x c) (hb : 0 < ra.cap → w'.heap[ra.b]? = w.heap[ra.b]?) : RootOk w' F' A' ra x c :=
  ⟨rc_mono hF hk hA h.rc, h.cap, h.dim, fun hc => (h.own hc).congr (hb hc)⟩
/-- The world grows, nothing that was there turns. -/
theorem Inv.grow (h : Inv w0 F0 Pb F A S tm w) {w' : World} (hb : Below w.heap.size w w') : Inv w0 F0 Pb F A S tm w' where
  os := hb.os.trans h.os
  tape := hb.tape.trans h.tape
  output := hb.output.trans h.output
  size := Nat.le_trans h.size hb.size
  keep b h1 h2 := (hb.block b (Nat.lt_of_lt_of_le h1 h.size)).trans (h.keep b h1 h2)
  fo b hf := ⟨Nat.lt_of_lt_of_le (h.fo b hf).1 hb.size, (h.fo b hf).2⟩
  tv v := (h.tv v).mono (fun _ h => h) (h.keeps hb) (ASub.refl A)
  rv g x hg := by
    obtain ⟨ra, c, h1, h2⟩ := h.rv g x hg
    exact ⟨ra, c, h1, h2.mono (fun _ h => h) (h.keeps hb) (ASub.refl A) (fun hc => hb.block _ (h.nw g ra h1 hc).1)⟩
  lv := h.lv
  sep := h.sep
  nw g ra hg hc := ⟨Nat.lt_of_lt_of_le (h.nw g ra hg hc).1 hb.size, (h.nw g ra hg hc).2⟩
  pin := h.pin
  shape := h.shape.trans (.below hb)
theorem Inv.set (h : Inv w0 F0 Pb F A S tm w) {d : Nat} {x : X} {v : Value} (hv : Rv w F A x v) : Inv w0 F0 Pb F A { S with t := upd S.t d x } (upd tm d v) w := by
  refine { h with tv := fun u => ?_ }
  unfold upd
  by_cases hu : u = d
  · subst hu; simpa using hv
  · simp only [hu, if_false]; exact h.tv u
/-- A new place in a new block. -/
theorem Inv.add (h : Inv w0 F0 Pb F A S tm w) {g : Nat} (hg : S.r g = none) {ra : RA} {x : X} {c : List Value} (hr : RootOk w F (upd A g (some ra)) ra x c)
    (hn : 0 < ra.cap → ra.b < w.heap.size ∧ (ra.b < w0.heap.size → Pb ra.b) ∧ ¬ F ra.b ∧ ∀ k rb, A k = some rb → 0 < rb.cap → ra.b ≠ rb.b) (hp : nlim ≤ g → Pb.pin g ra) :
    Inv w0 F0 Pb F (upd A g (some ra)) { S with r := upd S.r g (some x) } tm w := by
  have hAg : A g = none := by
    cases hA : A g with
    | none => rfl
    | some rb => obtain ⟨y, hy⟩ := h.lv g rb hA; rw [hg] at hy; cases hy
  have hsub : ASub A (upd A g (some ra)) := fun k rb hk => by
    unfold upd
    by_cases e : k = g
    · subst e; rw [hAg] at hk; cases hk
    · simpa [e] using hk
  have hk : Keeps F w w := fun _ _ => rfl
  refine { h with tv := fun v => (h.tv v).mono (fun _ h => h) hk hsub, rv := fun k y hy => ?_, lv := fun k rb hk => ?_, sep := fun k k' rb rb' h1 h2 hne c1 c2 => ?_, nw := fun k rb hk hc => ?_, pin := fun k rb hk hl => ?_ }
  · unfold upd at hy
    by_cases e : k = g
    · subst e
      simp at hy; subst hy
      exact ⟨ra, c, by simp [upd], hr⟩
    · simp only [e, if_false] at hy
      obtain ⟨rb, c', h1, h2⟩ := h.rv k y hy
      exact ⟨rb, c', hsub k rb h1, h2.mono (fun _ h => h) hk hsub (fun _ => rfl)⟩
  · unfold upd at hk
    by_cases e : k = g
    · subst e; exact ⟨x, by simp [upd]⟩
    · simp only [e, if_false] at hk
      obtain ⟨y, hy⟩ := h.lv k rb hk
      exact ⟨y, by simpa [upd, e] using hy⟩
  · unfold upd at h1 h2
    by_cases e : k = g
    · subst e
      simp at h1; subst h1
      simp only [Ne.symm hne, if_false] at h2
      exact (hn c1).2.2.2 k' rb' h2 c2
    · simp only [e, if_false] at h1
      by_cases e' : k' = g
      · subst e'
        simp at h2; subst h2
        exact Ne.symm ((hn c2).2.2.2 k rb h1 c1)
      · simp only [e', if_false] at h2
        exact h.sep k k' rb rb' h1 h2 hne c1 c2
  · unfold upd at hk
    by_cases e : k = g
    · subst e
      simp at hk; subst hk
      exact ⟨(hn hc).1, (hn hc).2.1, (hn hc).2.2.1⟩
    · simp only [e, if_false] at hk
      exact h.nw k rb hk hc
  · unfold upd at hk
    by_cases e : k = g
    · subst e
      simp at hk; subst hk
      exact hp hl
    · simp only [e, if_false] at hk
      exact h.pin k rb hk hl

theorem ofConst_ok' (v : Value) (x : X) (h : ofConst v = x) : Rv w F A x v := by
  unfold ofConst at h
  split at h <;> subst h
  · exact R1.rv (R1.of_single (by simp [Rc, Rf]) rfl)
  · exact R1.rv (R1.of_single (by simp [Rc, Rf]) rfl)
  · exact R1.rv (R1.of_single (by simp [Rc, Rf]) rfl)
  · exact R1.rv (R1.of_single (by simp [Rc, Rf]) rfl)
  · exact R1.rv (R1.of_single (by simp [Rc, Rf]) rfl)
  · exact R1.rv (R1.of_single (by simp [Rc, Rf]) rfl)
  · exact R1.rv (R1.of_single (by simp [Rc, Rf]) rfl)
  · trivial
theorem ofConst_ok (v : Value) : Rv w F A (ofConst v) v := ofConst_ok' v _ rfl
theorem ev_ok (h : Inv w0 F0 Pb F A S tm w) {a : Act} (htm : ∀ v, tm v = a.tmps.getD v undef) (x : Operand) : Rv w F A (S.ev x) (a.eval x) := by
  cases x with
  | tmp t => have := h.tv t; rw [htm] at this; exact this
  | const v => exact ofConst_ok v
  | global g => trivial
  | func f => exact R1.rv (R1.of_single (by simp [St.ev, Act.eval, Rc, RcL]) rfl)
end
section
variable {P : Program} {T : TT} {w : World} {F : Nat → Prop} {A : Nat → Option RA}
theorem int_of {k : IntKind} {n : Int} {v : Value} (h : Rv w F A (.i k n) v) : v = .int k n := by simpa [Rc, Rf] using (Rv.one h rfl rfl).single rfl
theorem bool_of {c : Bool} {v : Value} (h : Rv w F A (.b c) v) : v = .bool c := by simpa [Rc, Rf] using (Rv.one h rfl rfl).single rfl
theorem str_of {l : List UInt8} {v : Value} (h : Rv w F A (.s l) v) : v = .string ⟨l.toArray⟩ := by simpa [Rc, Rf] using (Rv.one h rfl rfl).single rfl
theorem int_ok (k : IntKind) (n : Int) : Rv w F A (.i k n) (.int k n) := R1.rv (R1.of_single (by simp [Rc, Rf]) rfl)
theorem bool_ok (c : Bool) : Rv w F A (.b c) (.bool c) := R1.rv (R1.of_single (by simp [Rc, Rf]) rfl)
theorem str_ok (l : List UInt8) : Rv w F A (.s l) (.string ⟨l.toArray⟩) := R1.rv (R1.of_single (by simp [Rc, Rf]) rfl)
end
end Go.EV
