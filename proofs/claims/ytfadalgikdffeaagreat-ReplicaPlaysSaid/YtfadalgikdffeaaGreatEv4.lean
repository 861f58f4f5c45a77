/- The operations that only read: what they give in the model is what the plain reading gives. -/
import Derived.Test.YtfadalgikdffeaaGreatEv3
import Derived.Deep.MidRow
set_option linter.unusedVariables false
set_option linter.unusedSimpArgs false
namespace Go.EV
open Go.RowKit

def descOk (T : TT) (d : TypeDesc) : TD → Prop
  | .bool => d = .bool
  | .int k => d = .int k
  | .str => d = .string
  | .sl e => d = .slice e
  | .pt e => d = .pointer e
  | .arr n e => d = .array n e
  | .st fs => ∃ fields : Array Field, d = .struct fields ∧ fields.toList.map (·.type) = fs ∧ ∀ (j : Nat) (f : Field), fields[j]? = some f → f.offset = offs T fs j ∧ ∃ fi, T f.type = some fi ∧ fi.size ≠ 0
  | .oth => True
structure TIOk (P : Program) (T : TT) (t : Nat) (ti : TI) : Prop where
  ex : ∃ i d z, P.info? t = some i ∧ P.underlying t = some d ∧ i.size = ti.size ∧ i.bytes = ti.bytes ∧ i.zero = some z ∧ (∀ w F A, R1 w F A ti.zero z) ∧ descOk T d ti.td ∧ d.isRow = ti.td.agg
  fz : ti.zero.fz = true
  fit : fits ti ti.zero = true
  eqs : cmpOk T 30 t = true → ∀ fields, P.underlying t = some (.struct fields) → (∀ f ∈ fields.toList, f.name ≠ "_") ∧ P.stoodInHeld t = false ∧ P.eqGuardType P.depth t = false
def TOk (P : Program) (T : TT) : Prop := ∀ t ti, T t = some ti → TIOk P T t ti

section
variable {P : Program} {T : TT} {w : World} {F : Nat → Prop} {A : Nat → Option RA}

theorem agg_eq {α : Type} (x : X) (a b : α) : (if x.agg = true then a else b) = (if x.agg then a else b) := rfl
theorem run_isAgg {t : Nat} {d : TypeDesc} (h : P.underlying t = some d) : (isAgg t).run P w = .ok d.isRow w := by
  unfold isAgg
  rw [Sem.run_bind, run_underlying h w]
  cases d <;> simp
/-- A value of the right size and kind, read from memory. -/
theorem run_loadAt {t : Nat} {ti : TI} (hT : TOk P T) (ht : T t = some ti) {x : X} {cs : List Value} (hf : fits ti x = true) (hb : Rc w F A x cs) {b o : Nat} (hm : MemAt w b o cs) :
    (Instr.loadAt t (.pointer (some ⟨b, o, none⟩))).run P w = .ok (val x cs) w := by
  obtain ⟨i, d, z, hi, hu, hs, _, _, _, _, hrow⟩ := (hT t ti ht).ex
  simp only [fits, Bool.and_eq_true, beq_iff_eq] at hf
  obtain ⟨⟨hsz, hag⟩, _⟩ := hf
  have hl := rc_len hb
  cases hx : x.agg with
  | true =>
    have := run_loadAt_mid (P := P) w b o t cs d hm hu (by rw [hrow, ← hag, hx]) (by simp [hi, hs, ← hsz, hl])
    simpa [val, hx] using this
  | false =>
    have h2 : x.size = 1 := by cases x <;> simp_all [X.agg, X.size]
    rw [h2] at hl
    match cs, hl with
    | [u], _ =>
      have hc := hm 0 u rfl
      simp [Instr.loadAt, Instr.sureAddr, loadVar, run_isAgg hu, hrow, ← hag, hx, val] 
      simp only [Nat.add_zero] at hc
      simp [hc]

theorem rfL_split : ∀ {xs : List X} {cs : List Value} {f : Nat} {y : X}, RfL w F xs cs → xs[f]? = some y → ∃ c1 c2 c3, cs = c1 ++ (c2 ++ c3) ∧ c1.length = sizeL (xs.take f) ∧ Rf w F y c2 ∧
    ∀ y' c2', Rf w F y' c2' → RfL w F (xs.set f y') (c1 ++ (c2' ++ c3))
  | x :: xs, cs, 0, y, h, hy => by
    simp only [RfL] at h
    obtain ⟨c1, c2, rfl, h1, h2⟩ := h
    simp at hy; subst hy
    refine ⟨[], c1, c2, rfl, by simp [sizeL], h1, fun y' c2' hr => ?_⟩
    simp only [List.set_cons_zero, RfL, List.nil_append]
    exact ⟨c2', c2, rfl, hr, h2⟩
  | x :: xs, cs, f + 1, y, h, hy => by
    simp only [RfL] at h
    obtain ⟨c1, c2, rfl, h1, h2⟩ := h
    obtain ⟨d1, d2, d3, rfl, hl, hr, hset⟩ := rfL_split h2 (by simpa using hy)
    refine ⟨c1 ++ d1, d2, d3, by simp, by simp [sizeL, hl, rf_len h1], hr, fun y' c2' hr' => ?_⟩
    simp only [List.set_cons_succ, RfL]
    exact ⟨c1, d1 ++ (c2' ++ d3), by simp, h1, hset y' c2' hr'⟩
theorem rcL_split : ∀ {xs : List X} {cs : List Value} {f : Nat} {y : X}, RcL w F A xs cs → xs[f]? = some y → ∃ c1 c2 c3, cs = c1 ++ (c2 ++ c3) ∧ c1.length = sizeL (xs.take f) ∧ Rc w F A y c2 ∧
    ∀ y' c2', Rc w F A y' c2' → RcL w F A (xs.set f y') (c1 ++ (c2' ++ c3))
  | x :: xs, cs, 0, y, h, hy => by
    simp only [RcL] at h
    obtain ⟨c1, c2, rfl, h1, h2⟩ := h
    simp at hy; subst hy
    refine ⟨[], c1, c2, rfl, by simp [sizeL], h1, fun y' c2' hr => ?_⟩
    simp only [List.set_cons_zero, RcL, List.nil_append]
    exact ⟨c2', c2, rfl, hr, h2⟩
  | x :: xs, cs, f + 1, y, h, hy => by
    simp only [RcL] at h
    obtain ⟨c1, c2, rfl, h1, h2⟩ := h
    obtain ⟨d1, d2, d3, rfl, hl, hr, hset⟩ := rcL_split h2 (by simpa using hy)
    refine ⟨c1 ++ d1, d2, d3, by simp, by simp [sizeL, hl, rc_len h1], hr, fun y' c2' hr' => ?_⟩
    simp only [List.set_cons_succ, RcL]
    exact ⟨c1, d1 ++ (c2' ++ d3), by simp, h1, hset y' c2' hr'⟩
theorem rfE_split {d : Nat} : ∀ {xs : List X} {cs : List Value} {f : Nat} {y : X}, RfE w F d xs cs → xs[f]? = some y → ∃ c1 c2 c3, cs = c1 ++ (c2 ++ c3) ∧ c1.length = f * d ∧ c2.length = d ∧ Rf w F y c2 ∧
    ∀ y' c2', c2'.length = d → Rf w F y' c2' → RfE w F d (xs.set f y') (c1 ++ (c2' ++ c3))
  | x :: xs, cs, 0, y, h, hy => by
    simp only [RfE] at h
    obtain ⟨c1, c2, rfl, hd, h1, h2⟩ := h
    simp at hy; subst hy
    refine ⟨[], c1, c2, rfl, by simp, hd, h1, fun y' c2' hd' hr => ?_⟩
    simp only [List.set_cons_zero, RfE, List.nil_append]
    exact ⟨c2', c2, rfl, hd', hr, h2⟩
  | x :: xs, cs, f + 1, y, h, hy => by
    simp only [RfE] at h
    obtain ⟨c1, c2, rfl, hd, h1, h2⟩ := h
    obtain ⟨d1, d2, d3, rfl, hl, hd2, hr, hset⟩ := rfE_split h2 (by simpa using hy)
    refine ⟨c1 ++ d1, d2, d3, by simp, by simp [hl, hd, Nat.add_mul]; omega, hd2, hr, fun y' c2' hd' hr' => ?_⟩
    simp only [List.set_cons_succ, RfE]
    exact ⟨c1, d1 ++ (c2' ++ d3), by simp, hd, h1, hset y' c2' hd' hr'⟩
theorem nav_cons_ag {xs : List X} {f : Nat} {p : List Nat} {q : X × Nat} (h : nav (.ag xs) (f :: p) = some q) : ∃ y o, xs[f]? = some y ∧ nav y p = some (q.1, o) ∧ q.2 = sizeL (xs.take f) + o := by
  simp only [nav] at h
  split at h
  · rename_i y hy
    obtain ⟨z, hz, rfl⟩ := Option.map_eq_some_iff.1 h
    exact ⟨y, z.2, hy, hz, rfl⟩
  · cases h
theorem nav_cons_ar {d : Nat} {xs : List X} {f : Nat} {p : List Nat} {q : X × Nat} (h : nav (.ar d xs) (f :: p) = some q) : ∃ y o, xs[f]? = some y ∧ nav y p = some (q.1, o) ∧ q.2 = f * d + o := by
  simp only [nav] at h
  split at h
  · rename_i y hy
    obtain ⟨z, hz, rfl⟩ := Option.map_eq_some_iff.1 h
    exact ⟨y, z.2, hy, hz, rfl⟩
  · cases h
theorem navF : ∀ {p : List Nat} {x y : X} {o : Nat} {cs : List Value}, nav x p = some (y, o) → Rf w F x cs → ∃ c1 c2 c3, cs = c1 ++ (c2 ++ c3) ∧ c1.length = o ∧ Rf w F y c2 ∧
    ∀ y' c2', c2'.length = c2.length → Rf w F y' c2' → Rf w F (setAt x p y') (c1 ++ (c2' ++ c3))
  | [], x, y, o, cs, h, hr => by
    simp only [nav, Option.some.injEq, Prod.mk.injEq] at h
    obtain ⟨rfl, rfl⟩ := h
    exact ⟨[], cs, [], by simp, rfl, hr, fun y' c2' _ h2 => by simpa [setAt] using h2⟩
  | f :: p, .ag xs, y, o, cs, h, hr => by
    obtain ⟨z, o', hz, hn, ho⟩ := nav_cons_ag h
    simp only at ho hn
    simp only [Rf] at hr
    obtain ⟨c1, c2, c3, rfl, hl, hrz, hset⟩ := rfL_split hr hz
    obtain ⟨d1, d2, d3, rfl, hl2, hry, hset2⟩ := navF hn hrz
    refine ⟨c1 ++ d1, d2, d3 ++ c3, by simp, by simp [hl, hl2, ho], hry, fun y' c2' hlen hr' => ?_⟩
    have := hset _ _ (hset2 y' c2' hlen hr')
    simp only [setAt, hz, Rf]
    simpa [List.append_assoc] using this
  | f :: p, .ar d xs, y, o, cs, h, hr => by
    obtain ⟨z, o', hz, hn, ho⟩ := nav_cons_ar h
    simp only at ho hn
    simp only [Rf] at hr
    obtain ⟨c1, c2, c3, rfl, hl, hd, hrz, hset⟩ := rfE_split hr hz
    obtain ⟨d1, d2, d3, rfl, hl2, hry, hset2⟩ := navF hn hrz
    refine ⟨c1 ++ d1, d2, d3 ++ c3, by simp, by simp [hl, hl2, ho], hry, fun y' c2' hlen hr' => ?_⟩
    have := hset _ _ (by simp at hd ⊢; omega) (hset2 y' c2' hlen hr')
    simp only [setAt, hz, Rf]
    simpa [List.append_assoc] using this
  | f :: p, .bot, y, o, cs, h, hr | f :: p, .b _, y, o, cs, h, hr | f :: p, .i _ _, y, o, cs, h, hr | f :: p, .s _, y, o, cs, h, hr | f :: p, .tup _, y, o, cs, h, hr | f :: p, .sl _ _, y, o, cs, h, hr
  | f :: p, .hw _, y, o, cs, h, hr | f :: p, .hd _ _ _ _, y, o, cs, h, hr | f :: p, .np, y, o, cs, h, hr | f :: p, .pt _ _ _, y, o, cs, h, hr | f :: p, .pf _, y, o, cs, h, hr | f :: p, .nm, y, o, cs, h, hr
  | f :: p, .nf, y, o, cs, h, hr | f :: p, .fn _ _, y, o, cs, h, hr | f :: p, .ow _ _, y, o, cs, h, hr | f :: p, .ob _, y, o, cs, h, hr => by simp [nav] at h
theorem navC : ∀ {p : List Nat} {x y : X} {o : Nat} {cs : List Value}, nav x p = some (y, o) → Rc w F A x cs → ∃ c1 c2 c3, cs = c1 ++ (c2 ++ c3) ∧ c1.length = o ∧ Rc w F A y c2 ∧
    ∀ y' c2', c2'.length = c2.length → Rc w F A y' c2' → (inAr x p = true → Rf w F y' c2') → Rc w F A (setAt x p y') (c1 ++ (c2' ++ c3))
  | [], x, y, o, cs, h, hr => by
    simp only [nav, Option.some.injEq, Prod.mk.injEq] at h
    obtain ⟨rfl, rfl⟩ := h
    exact ⟨[], cs, [], by simp, rfl, hr, fun y' c2' _ h2 _ => by simpa [setAt] using h2⟩
  | f :: p, .ag xs, y, o, cs, h, hr => by
    obtain ⟨z, o', hz, hn, ho⟩ := nav_cons_ag h
    simp only at ho hn
    simp only [Rc] at hr
    obtain ⟨c1, c2, c3, rfl, hl, hrz, hset⟩ := rcL_split hr hz
    obtain ⟨d1, d2, d3, rfl, hl2, hry, hset2⟩ := navC hn hrz
    refine ⟨c1 ++ d1, d2, d3 ++ c3, by simp, by simp [hl, hl2, ho], hry, fun y' c2' hlen hr' hia => ?_⟩
    have := hset _ _ (hset2 y' c2' hlen hr' (fun hh => hia (by simpa [inAr, hz] using hh)))
    simp only [setAt, hz, Rc]
    simpa [List.append_assoc] using this
  | f :: p, .ar d xs, y, o, cs, h, hr => by
    simp only [Rc] at hr
    obtain ⟨c1, c2, c3, rfl, hl, hry, hset⟩ := navF h hr
    refine ⟨c1, c2, c3, rfl, hl, rf_rc hry, fun y' c2' hlen hr' hia => ?_⟩
    have hs : Rf w F (setAt (.ar d xs) (f :: p) y') (c1 ++ (c2' ++ c3)) := hset y' c2' hlen (hia (by simp [inAr]))
    exact rf_rc hs
  | f :: p, .bot, y, o, cs, h, hr | f :: p, .b _, y, o, cs, h, hr | f :: p, .i _ _, y, o, cs, h, hr | f :: p, .s _, y, o, cs, h, hr | f :: p, .tup _, y, o, cs, h, hr | f :: p, .sl _ _, y, o, cs, h, hr
  | f :: p, .hw _, y, o, cs, h, hr | f :: p, .hd _ _ _ _, y, o, cs, h, hr | f :: p, .np, y, o, cs, h, hr | f :: p, .pt _ _ _, y, o, cs, h, hr | f :: p, .pf _, y, o, cs, h, hr | f :: p, .nm, y, o, cs, h, hr
  | f :: p, .nf, y, o, cs, h, hr | f :: p, .fn _ _, y, o, cs, h, hr | f :: p, .ow _ _, y, o, cs, h, hr | f :: p, .ob _, y, o, cs, h, hr => by simp [nav] at h
theorem MemAt.mid {b o : Nat} {c1 c2 c3 : List Value} (h : MemAt w b o (c1 ++ (c2 ++ c3))) : MemAt w b (o + c1.length) c2 := by
  intro j u hu
  have := h (c1.length + j) u (by
    rw [List.getElem?_append_right (by omega)]
    simp only [Nat.add_sub_cancel_left]
    rw [List.getElem?_append_left ((List.getElem?_eq_some_iff.1 hu).1)]
    exact hu)
  rwa [show o + (c1.length + j) = o + c1.length + j by omega] at this
end
end Go.EV
