/- From a row's reading of an argument to the facts that the machine-side texts ask: whole numbers, bools, strings, slices, structs, one in the other. -/
import Derived.Carry
import Derived.ChangeFn
import Derived.ChangeOld
import Derived.OpenShut
import Derived.ProofKit
import Derived.ShutString
import Derived.Test.YtkkelbakadbbhaaWords
import Derived.WalkKit
set_option linter.unusedVariables false
set_option linter.unusedSimpArgs false
namespace Go.Proofs.Ytkkelbakadbbhaa.Opn
open Go.RowKit Go.Proofs.YtkkelbakadbbhaaW.PrintWords

/-- What is read of type t is of kind d, and Wf holds of it. -/
def Opens (P : Program) {α : Type} (d : Kd α) (t : TypeId) (Wf : α → Prop) : Prop :=
  ∀ (H : Type) (enc : TypeId × Value → H) (w : World) (fuel : Nat) (cs : List Value) (dd : DataW H) (ps : List MemPlace),
    DataW.trod enc P w 0 (fun _ => true) true fuel t cs = some (dd, ps) → ∃ x : α, d.K w x cs ∧ Wf x
theorem opens_int {P : Program} {t : TypeId} {k : IntKind} (ht : P.underlying t = some (.int k)) : Opens P (Kd.int k) t (fun n => (Lit.int k n).wf = true) := by
  intro H enc w fuel cs dd ps h
  cases fuel with
  | zero => simp [DataW.trod] at h
  | succ fuel =>
    unfold DataW.trod at h
    rw [ht] at h
    split at h <;> (first | (rename_i hq; injection hq with hq; injection hq; done) | (cases h; done) | skip)
    rename_i k1 k2 n hq
    injection hq with hq
    injection hq with hq
    subst hq
    split at h
    · rename_i hc
      obtain ⟨h1, h2⟩ := hc
      subst h1
      exact ⟨n, rfl, h2⟩
    · cases h
theorem opens_bool {P : Program} {t : TypeId} (ht : P.underlying t = some .bool) : Opens P Kd.bool t (fun _ => True) := by
  intro H enc w fuel cs dd ps h
  cases fuel with
  | zero => simp [DataW.trod] at h
  | succ fuel =>
    unfold DataW.trod at h
    rw [ht] at h
    split at h <;> (first | (rename_i hq; injection hq with hq; injection hq; done) | (cases h; done) | skip)
    rename_i b hq
    exact ⟨b, rfl, trivial⟩
theorem opens_string {P : Program} {t : TypeId} (ht : P.underlying t = some .string) : Opens P Kd.string t (fun s => s.size ≤ maxLen) := by
  intro H enc w fuel cs dd ps h
  cases fuel with
  | zero => simp [DataW.trod] at h
  | succ fuel =>
    unfold DataW.trod at h
    rw [ht] at h
    split at h <;> (first | (rename_i hq; injection hq with hq; injection hq; done) | (cases h; done) | skip)
    rename_i s hq
    split at h
    · exact ⟨s, rfl, by assumption⟩
    · cases h
theorem mapM_get {α β : Type} (f : α → Option β) : ∀ (l : List α) (ys : List β), l.mapM f = some ys → ys.length = l.length ∧ ∀ (j : Nat) x, l[j]? = some x → ∃ y, ys[j]? = some y ∧ f x = some y
  | [], ys, h => by
    simp at h; subst h; exact ⟨rfl, fun j x hx => by simp at hx⟩
  | a :: l, ys, h => by
    rw [List.mapM_cons] at h
    simp only [Option.bind_eq_bind, Option.bind_eq_some_iff, Option.pure_def, Option.some.injEq] at h
    obtain ⟨y, hy, zs, hzs, rfl⟩ := h
    obtain ⟨h1, h2⟩ := mapM_get f l zs hzs
    refine ⟨by simp [h1], fun j x hx => ?_⟩
    cases j with
    | zero => simp at hx; subst hx; exact ⟨y, by simp, hy⟩
    | succ j => simp at hx; obtain ⟨z, hz, hfz⟩ := h2 j x hx; exact ⟨z, by simpa using hz, hfz⟩
theorem cells_get {w : World} {base : Nat} {a : Addr} {n : Nat} {cs : List Value} (h : w.cells? base a n = some cs) : cs.length = n ∧ ∀ (j : Nat) u, cs[j]? = some u → w.cell? (a.add j) = some u := by
  unfold World.cells? at h
  split at h
  · obtain ⟨h1, h2⟩ := mapM_get _ _ _ h
    rw [List.length_range] at h1
    refine ⟨h1, fun j u hu => ?_⟩
    have hj : j < n := by have := (List.getElem?_eq_some_iff.1 hu).1; omega
    obtain ⟨y, hy, hfy⟩ := h2 j j (by rw [List.getElem?_range hj])
    rw [hu] at hy
    cases hy
    exact hfy
  · cases h
theorem choose_list {β α : Type} (Q : Nat → α → Prop) : ∀ n : Nat, (∀ i, i < n → ∃ x, Q i x) → ∃ xs : List α, xs.length = n ∧ ∀ (i : Nat) x, xs[i]? = some x → Q i x
  | 0, _ => ⟨[], rfl, fun i x h => by simp at h⟩
  | n + 1, h => by
    obtain ⟨xs, h1, h2⟩ := choose_list (β := β) Q n (fun i hi => h i (by omega))
    obtain ⟨x, hx⟩ := h n (by omega)
    refine ⟨xs ++ [x], by simp [h1], fun i y hy => ?_⟩
    rcases Nat.lt_or_ge i xs.length with hi | hi
    · rw [List.getElem?_append_left hi] at hy; exact h2 i y hy
    · have : i = xs.length := by
        have := (List.getElem?_eq_some_iff.1 hy).1
        simp at this; omega
      subst this
      simp at hy
      subst hy
      rw [h1]; exact hx
theorem opens_slice {P : Program} {α : Type} {d : Kd α} {t e : TypeId} {Wf : α → Prop} (ht : P.underlying t = some (.slice e)) (he : Opens P d e Wf) (hs : P.cellsOf e = d.sz) :
    Opens P (Kd.slice e d) t (fun xs => xs.length ≤ maxLen ∧ ∀ x ∈ xs, Wf x) := by
  intro H enc w fuel cs dd ps h
  cases fuel with
  | zero => simp [DataW.trod] at h
  | succ fuel =>
    unfold DataW.trod at h
    rw [ht] at h
    split at h <;> (first | (rename_i hq; injection hq with hq; injection hq; done) | (cases h; done) | skip)
    · exact ⟨[], ⟨none, 0, rfl, Nat.le_refl _, ⟨rfl, by simp, fun h => absurd h (by simp)⟩⟩, by simp, fun x hx => by simp at hx⟩
    · rename_i e2 a len cap h0
      injection h0 with h0
      injection h0 with h0
      subst h0
      simp only at h
      split at h
      · rename_i hb
        obtain ⟨hb0, hlc, hcm⟩ := hb
        rw [Option.bind_eq_some_iff] at h
        obtain ⟨elems, hel, _⟩ := h
        obtain ⟨g1, g2⟩ := mapM_get _ _ _ hel
        rw [List.length_range] at g1
        have hall : ∀ i, i < len → ∃ x : α, (∃ c, c.length = d.sz ∧ d.K w x c ∧ ∀ j u, c[j]? = some u → w.cell? (a.add (i * d.sz + j)) = some u) ∧ Wf x := by
          intro i hi
          obtain ⟨y, _, hfy⟩ := g2 i i (by rw [List.getElem?_range hi])
          rw [Option.bind_eq_some_iff] at hfy
          obtain ⟨c, hc, htr⟩ := hfy
          obtain ⟨k1, k2⟩ := cells_get hc
          obtain ⟨x, hx, hw⟩ := he H enc w fuel c y.1 y.2 htr
          refine ⟨x, ⟨c, by rw [k1, hs], hx, fun j u hu => ?_⟩, hw⟩
          have := k2 j u hu
          rw [add_add, hs] at this
          exact this
        obtain ⟨xs, e1, e2⟩ := choose_list (β := Unit) _ len hall
        subst e1
        refine ⟨xs, ⟨some a, cap, rfl, hlc, ⟨rfl, by simp only [maxLen] at hcm; omega, fun _ => ⟨a, rfl, fun j p hp => ?_⟩⟩⟩, by simp only [maxLen] at *; omega, fun x hx => ?_⟩
        · obtain ⟨⟨c, c1, c2, c3⟩, _⟩ := e2 j p hp
          exact ⟨c, c1, c2, c3⟩
        · obtain ⟨i, hi, rfl⟩ := List.getElem_of_mem hx
          exact (e2 i _ (List.getElem?_eq_getElem hi)).2
      · cases h
/-- The fields from place o on. -/
def OpensF (P : Program) {α : Type} (d : Kd α) (fs : List Field) (o : Nat) (Wf : α → Prop) : Prop :=
  ∀ (H : Type) (enc : TypeId × Value → H) (w : World) (fuel : Nat) (cs : List Value) (xs : List (DataW H × List MemPlace)), cs.length = o + d.sz →
    fs.mapM (fun f => DataW.trod enc P w 0 (fun _ => true) true fuel f.type ((cs.drop f.offset).take (P.cellsOf f.type))) = some xs → ∃ x : α, d.K w x (cs.drop o) ∧ Wf x
theorem opensF_one {P : Program} {α : Type} {d : Kd α} {f : Field} {o : Nat} {Wf : α → Prop} (ho : f.offset = o) (hs : P.cellsOf f.type = d.sz) (h : Opens P d f.type Wf) : OpensF P d [f] o Wf := by
  intro H enc w fuel cs xs hl hm
  obtain ⟨_, h2⟩ := mapM_get _ _ _ hm
  obtain ⟨y, _, hy⟩ := h2 0 f rfl
  obtain ⟨x, hx, hw⟩ := h H enc w fuel _ y.1 y.2 hy
  refine ⟨x, ?_, hw⟩
  rw [ho, hs, List.take_of_length_le (by rw [List.length_drop]; omega)] at hx
  exact hx
theorem opensF_cons {P : Program} {α β : Type} {d : Kd α} {d2 : Kd β} {f : Field} {fs : List Field} {o : Nat} {Wf : α → Prop} {Wf2 : β → Prop} (ho : f.offset = o) (hs : P.cellsOf f.type = d.sz) (h : Opens P d f.type Wf) (h2 : OpensF P d2 fs (o + d.sz) Wf2) :
    OpensF P (Kd.pair d d2) (f :: fs) o (fun x => Wf x.1 ∧ Wf2 x.2) := by
  intro H enc w fuel cs xs hl hm
  have hl' : cs.length = o + (d.sz + d2.sz) := hl
  rw [List.mapM_cons] at hm
  simp only [Option.bind_eq_bind, Option.bind_eq_some_iff, Option.pure_def, Option.some.injEq] at hm
  obtain ⟨y, hy, zs, hzs, _⟩ := hm
  obtain ⟨x, hx, hw⟩ := h H enc w fuel _ y.1 y.2 hy
  obtain ⟨x2, hx2, hw2⟩ := h2 H enc w fuel cs zs (by omega) hzs
  refine ⟨(x, x2), ⟨(cs.drop o).take d.sz, cs.drop (o + d.sz), ?_, ?_, hx2⟩, hw, hw2⟩
  · rw [← List.drop_drop, List.take_append_drop]
  · rw [ho, hs] at hx; exact hx
theorem opens_struct {P : Program} {α : Type} {d : Kd α} {t : TypeId} {fs : Array Field} {Wf : α → Prop} (ht : P.underlying t = some (.struct fs)) (hs : P.cellsOf t = d.sz) (h : OpensF P d fs.toList 0 Wf) : Opens P d t Wf := by
  intro H enc w fuel cs dd ps hh
  cases fuel with
  | zero => simp [DataW.trod] at hh
  | succ fuel =>
    unfold DataW.trod at hh
    rw [ht] at hh
    split at hh <;> (first | (rename_i hq; injection hq with hq; injection hq; done) | (cases hh; done) | (exfalso; simp_all; done) | skip)
    rename_i fs2 h0
    injection h0 with h0
    injection h0 with h0
    subst h0
    split at hh
    · rename_i hl
      rw [Option.map_eq_some_iff] at hh
      obtain ⟨xs, hxs, _⟩ := hh
      obtain ⟨x, hx, hw⟩ := h H enc w fuel _ xs (by omega) hxs
      exact ⟨x, by simpa using hx, hw⟩
    · cases hh
theorem opens_iso {P : Program} {α β : Type} {d : Kd α} {t : TypeId} {Wf : α → Prop} (g : β → α) (hg : ∀ y, ∃ x, g x = y) (h : Opens P d t Wf) : Opens P (Kd.iso d g) t (fun x => Wf (g x)) := by
  intro H enc w fuel cs dd ps hh
  obtain ⟨y, hy, hw⟩ := h H enc w fuel cs dd ps hh
  obtain ⟨x, rfl⟩ := hg y
  exact ⟨x, hy, hw⟩
theorem opens_trod {P : Program} {α : Type} {d : Kd α} {t : TypeId} {Wf : α → Prop} (h : Opens P d t Wf) {H : Type} {enc : TypeId × Value → H} {w : World} {v : Value} {dd : DataW H} {ps : List MemPlace} (hh : DataW.Trod enc P w 0 (fun _ => true) true t v dd ps) :
    ∃ x : α, d.K w x v.cells.toList ∧ Wf x := by
  obtain ⟨fuel, hf⟩ := hh
  exact h H enc w fuel _ dd ps hf
theorem okWide_agg {P : Program} {W : World} {r : Reach} {base : Nat} {t : TypeId} {fs : Array Field} {v : Value} (ht : P.underlying t = some (.struct fs)) (h : Value.okWide P W r base t v) : ∃ cs, v = .agg cs := by
  unfold Value.okWide at h
  rw [ht] at h
  obtain ⟨cs, rfl, _⟩ := h
  exact ⟨cs, rfl⟩
end Go.Proofs.Ytkkelbakadbbhaa.Opn
