/- From a row's reading of the arguments to plain values; from plain values back to the row. -/
import Derived.Test.YtfadalgikdffeaaGreatEv19
import Derived.Carry
import Derived.ChangeFn
import Derived.ChangeOld
import Derived.OpenShut
import Derived.ProofKit
import Derived.ShutString
import Derived.WalkKit
import Derived.SizedLaws
import Derived.KernelRfl
set_option linter.unusedVariables false
set_option linter.unusedSimpArgs false
namespace Go.EV
open Go.RowKit
/-- A plain value of a type, as it comes in from outside. -/
def HasTy (T : TT) : Nat → Nat → X → Prop
  | 0, _, _ => False
  | n + 1, t, x => match T t with
    | some { td := .bool, .. } => ∃ v, x = .b v
    | some { td := .int k, .. } => ∃ m, x = .i k m ∧ (Lit.int k m).wf = true
    | some { td := .str, .. } => ∃ l, x = .s l ∧ l.length ≤ maxLen
    | some { td := .sl e, .. } => ∃ xs, x = .sl false xs ∧ xs.length ≤ maxLen ∧ ∀ y ∈ xs, HasTy T n e y
    | some { td := .st fs, .. } => ∃ xs, x = .ag xs ∧ xs.length = fs.length ∧ ∀ (j : Nat) f y, fs[j]? = some f → xs[j]? = some y → HasTy T n f y
    | _ => False
def supp (T : TT) : Nat → Nat → Bool
  | 0, _ => false
  | n + 1, t => match T t with
    | some { td := .bool, .. } | some { td := .int _, .. } | some { td := .str, .. } => true
    | some { td := .sl e, .. } => supp T n e && (match T e with | some ei => decide (0 < ei.size) | none => false)
    | some { td := .st fs, .. } => fs.all (supp T n)
    | _ => false
section
theorem mapM_get {α β : Type} (f : α → Option β) : ∀ (l : List α) (ys : List β), l.mapM f = some ys → ys.length = l.length ∧ ∀ (j : Nat) x, l[j]? = some x → ∃ y, ys[j]? = some y ∧ f x = some y
  | [], ys, h => by
    simp at h; subst h; exact ⟨rfl, fun j x hx => by simp at hx⟩
  | a :: l, ys, h => by
    rw [List.mapM_cons] at h
    simp only [Option.bind_eq_bind, Option.bind_eq_some_iff, Option.pure_def, Option.some.injEq] at h
    obtain ⟨y, hy, zs, hzs, rfl⟩ := h
    obtain ⟨h1, h2⟩ := mapM_get f l zs hzs
    refine ⟨by simp [h1], fun j x hx => ?_⟩
    cases j with
    | zero => simp at hx; subst hx; exact ⟨y, by simp, hy⟩
    | succ j => simp at hx; obtain ⟨z, hz, hfz⟩ := h2 j x hx; exact ⟨z, by simpa using hz, hfz⟩
theorem cells_get {w : World} {base : Nat} {a : Addr} {n : Nat} {cs : List Value} (h : w.cells? base a n = some cs) : cs.length = n ∧ ∀ (j : Nat) u, cs[j]? = some u → w.cell? (a.add j) = some u := by
  unfold World.cells? at h
  split at h
  · obtain ⟨h1, h2⟩ := mapM_get _ _ _ h
    rw [List.length_range] at h1
    refine ⟨h1, fun j u hu => ?_⟩
    have hj : j < n := by have := (List.getElem?_eq_some_iff.1 hu).1; omega
    obtain ⟨y, hy, hfy⟩ := h2 j j (by rw [List.getElem?_range hj])
    rw [hu] at hy
    cases hy
    exact hfy
  · cases h
theorem add_add (a : Addr) (p q : Nat) : (a.add p).add q = a.add (p + q) := by
  unfold Addr.add
  by_cases hp : p = 0
  · subst hp; simp
  · by_cases hq : q = 0
    · subst hq; simp [hp]
    · simp [hp, hq, Nat.add_assoc]
variable {P : Program} {T : TT}
theorem cellsOf_T (hT : TOk P T) {t : Nat} {ti : TI} (ht : T t = some ti) : P.cellsOf t = ti.size := by
  obtain ⟨i, d, hi, _, hs, _⟩ := desc_ok hT ht
  simp [Program.cellsOf, hi, hs]
theorem offs_succ (T : TT) {fs : List Nat} {k f : Nat} {fi : TI} (h : fs[k]? = some f) (hf : T f = some fi) : offs T fs (k + 1) = offs T fs k + fi.size := by
  unfold offs
  obtain ⟨hlt, rfl⟩ := List.getElem?_eq_some_iff.1 h
  rw [List.take_succ_eq_append_getElem hlt]
  rw [List.map_append, List.sum_append]
  simp [hf]
theorem st_size (hT : TOk P T) (hS : ShOk T) {t : Nat} {ti : TI} (ht : T t = some ti) {fs : List Nat} (hd : ti.td = .st fs) : offs T fs fs.length = ti.size := by
  have hsh := hS t ti ht
  have hfit := (hT t ti ht).fit
  simp only [fits, Bool.and_eq_true, beq_iff_eq] at hfit
  unfold shapeOk at hsh
  rw [hd] at hsh
  cases hz : ti.zero <;> rw [hz] at hsh <;> simp only at hsh
  rename_i zs
  have hlen : zs.length = fs.length := by
    rcases Nat.lt_trichotomy zs.length fs.length with h | h | h
    · have := hsh zs.length
      rw [List.getElem?_eq_none (Nat.le_refl _), List.getElem?_eq_getElem h] at this
      simp at this
    · exact h
    · have := hsh fs.length
      rw [List.getElem?_eq_none (l := fs) (Nat.le_refl _), List.getElem?_eq_getElem h] at this
      simp at this
  have := sizeL_offs (T := T) hsh fs.length
  rw [List.take_of_length_le (by omega)] at this
  rw [← this, ← hfit.1.1, hz]
  rfl
theorem opens_ok (hT : TOk P T) (hS : ShOk T) {H : Type} {enc : TypeId × Value → H} {w : World} : ∀ (n t : Nat), supp T n t = true → ∀ (fuel : Nat) (cs : List Value) (dd : DataW H) (ps : List MemPlace), DataW.trod enc P w 0 (fun _ => true) true fuel t cs = some (dd, ps) → ∃ x, HasTy T n t x ∧ Rf w (fun b => b < w.heap.size) x cs
  | 0, t, hs, fuel, cs, dd, ps, h => by simp [supp] at hs
  | n + 1, t, hs, 0, cs, dd, ps, h => by simp [DataW.trod] at h
  | n + 1, t, hs, fuel + 1, cs, dd, ps, h => by
    cases ht : T t with
    | none => simp [supp, ht] at hs
    | some ti =>
      obtain ⟨i, d, hi, hu, hsz, _, hdesc, _⟩ := desc_ok hT ht
      obtain ⟨td, size, bytes, zero⟩ := ti
      cases td with
      | bool =>
        simp only [supp, ht, HasTy, descOk] at hs hdesc ⊢
        subst hdesc
        unfold DataW.trod at h
        rw [hu] at h
        split at h <;> (first | (rename_i hq; injection hq with hq; injection hq; done) | (cases h; done) | skip)
        rename_i b hq
        exact ⟨_, ⟨b, rfl⟩, by simp [Rf]⟩
      | int k =>
        simp only [supp, ht, HasTy, descOk] at hs hdesc ⊢
        subst hdesc
        unfold DataW.trod at h
        rw [hu] at h
        split at h <;> (first | (rename_i hq; injection hq with hq; injection hq; done) | (cases h; done) | skip)
        rename_i k1 k2 m hq
        injection hq with hq
        injection hq with hq
        subst hq
        split at h
        · rename_i hc
          obtain ⟨rfl, h2⟩ := hc
          exact ⟨_, ⟨m, rfl, h2⟩, by simp [Rf]⟩
        · cases h
      | str =>
        simp only [supp, ht, HasTy, descOk] at hs hdesc ⊢
        subst hdesc
        unfold DataW.trod at h
        rw [hu] at h
        split at h <;> (first | (rename_i hq; injection hq with hq; injection hq; done) | (cases h; done) | skip)
        rename_i s hq
        split at h
        · rename_i hl
          exact ⟨_, ⟨s.data.toList, rfl, by rw [Array.length_toList]; exact hl⟩, by simp [Rf]⟩
        · cases h
      | arr m e => simp [supp, ht] at hs
      | pt e => simp [supp, ht] at hs
      | oth => simp [supp, ht] at hs
      | sl e =>
        simp only [supp, ht, HasTy, descOk] at hs hdesc ⊢
        subst hdesc
        simp only [Bool.and_eq_true] at hs
        unfold DataW.trod at h
        rw [hu] at h
        split at h <;> (first | (rename_i hq; injection hq with hq; injection hq; done) | (cases h; done) | skip)
        · exact ⟨_, ⟨[], rfl, by simp, by simp⟩, by simp only [Rf]; exact ⟨none, 0, rfl, by simp, by simp, by simp⟩⟩
        · rename_i e2 a len cap h0
          injection h0 with h0
          injection h0 with h0
          subst h0
          simp only at h
          split at h
          · rename_i hb
            obtain ⟨hb0, hlc, hcm⟩ := hb
            rw [Option.bind_eq_some_iff] at h
            obtain ⟨elems, hel, _⟩ := h
            obtain ⟨g1, g2⟩ := mapM_get _ _ _ hel
            rw [List.length_range] at g1
            cases he : T e with
            | none => rw [he] at hs; simp at hs
            | some ei =>
              rw [he] at hs
              have hpos : 0 < ei.size := by simpa using hs.2
              have hcell := cellsOf_T hT he
              have hall : ∀ k, k ≤ len → ∃ xs : List X, ∃ c : List Value, xs.length = k ∧ RfE w (fun b => b < w.heap.size) ei.size xs c ∧ (∀ (j : Nat) u, c[j]? = some u → w.cell? (a.add j) = some u) ∧ ∀ y ∈ xs, HasTy T n e y := by
                intro k
                induction k with
                | zero => intro _; exact ⟨[], [], rfl, by simp [RfE], by simp, by simp⟩
                | succ k ih =>
                  intro hk
                  obtain ⟨xs, c, l1, l2, l3, l4⟩ := ih (by omega)
                  obtain ⟨y, _, hfy⟩ := g2 k k (by rw [List.getElem?_range (by omega)])
                  rw [Option.bind_eq_some_iff] at hfy
                  obtain ⟨ck, hck, htr⟩ := hfy
                  obtain ⟨k1, k2⟩ := cells_get hck
                  obtain ⟨x, hx, hrx⟩ := opens_ok hT hS n e hs.1 fuel ck y.1 y.2 htr
                  have hlc2 := rfE_len l2
                  refine ⟨xs ++ [x], c ++ ck, by simp [l1], rfE_append l2 (by simp only [RfE]; exact ⟨ck, [], by simp, by rw [k1, hcell], hrx, rfl⟩), fun j u hu => ?_, fun y hy => ?_⟩
                  · rcases Nat.lt_or_ge j c.length with hj | hj
                    · rw [List.getElem?_append_left hj] at hu; exact l3 j u hu
                    · rw [List.getElem?_append_right hj] at hu
                      have := k2 _ u hu
                      rw [hcell] at this
                      have e1 : (a.add (k * ei.size)).add (j - c.length) = a.add j := by
                        have e2 : c.length = k * ei.size := by rw [hlc2, l1, Nat.mul_comm]
                        rw [add_add, e2]
                        congr 1
                        omega
                      rw [e1] at this
                      exact this
                  · rcases List.mem_append.1 hy with hy | hy
                    · exact l4 y hy
                    · simp at hy; subst hy; exact hx
              obtain ⟨xs, c, l1, l2, l3, l4⟩ := hall len (Nat.le_refl _)
              refine ⟨.sl false xs, ⟨xs, rfl, by rw [l1]; simp only [maxLen] at *; omega, l4⟩, ?_⟩
              simp only [Rf]
              refine ⟨some a, cap, by rw [l1], by omega, by simp, ?_⟩
              by_cases hne : xs = []
              · exact .inl hne
              · right
                have hlen2 := rfE_len l2
                have hc0 : 0 < c.length := by rw [hlen2]; exact Nat.mul_pos hpos (List.length_pos_iff.2 hne)
                have h0 := l3 0 c[0] (by simp [hc0])
                have hsp : a.spot = none := by
                  have ha : a.add 0 = a := by simp [Addr.add]
                  rw [ha] at h0
                  unfold World.cell? at h0
                  split at h0
                  · split at h0
                    · cases h0
                    · rename_i hh; simpa using hh
                  · cases h0
                refine ⟨a, ei.size, c, rfl, hsp, ?_, l2, fun j u hu => ?_⟩
                · have ha : a.add 0 = a := by simp [Addr.add]
                  rw [ha] at h0
                  unfold World.cell? at h0
                  split at h0
                  · rename_i hh; exact (Array.getElem?_eq_some_iff.1 hh).1
                  · cases h0
                · have := l3 j u hu
                  rw [spot_eta hsp, Addr.add_mid] at this
                  exact this
          · cases h
      | st fs =>
        simp only [supp, ht, HasTy, descOk] at hs hdesc ⊢
        obtain ⟨fields, rfl, hm, hall⟩ := hdesc
        unfold DataW.trod at h
        rw [hu] at h
        split at h <;> (first | (rename_i hq; injection hq with hq; injection hq; done) | (cases h; done) | (exfalso; simp_all; done) | skip)
        rename_i cs x0 cs1 fs2 h0
        injection h0 with h0
        injection h0 with h0
        subst h0
        split at h
        · rename_i hl
          rw [Option.map_eq_some_iff] at h
          obtain ⟨zs, hzs, _⟩ := h
          obtain ⟨m1, m2⟩ := mapM_get _ _ _ hzs
          have htot := st_size hT hS ht rfl
          rw [cellsOf_T hT ht] at hl
          simp only at htot hl
          have hfl : fs.length = fields.size := by rw [← hm]; simp
          have key : ∀ q k, k + q = fs.length → ∃ xs, xs.length = q ∧ (∀ (j : Nat) f y, fs[k + j]? = some f → xs[j]? = some y → HasTy T n f y) ∧ RfL w (fun b => b < w.heap.size) xs (cs.drop (offs T fs k)) := by
            intro q
            induction q with
            | zero =>
              intro k hk
              have : k = fs.length := by omega
              subst this
              refine ⟨[], rfl, fun j f y _ hy => by simp at hy, ?_⟩
              rw [htot, ← hl, List.drop_length]
              simp [RfL]
            | succ q ih =>
              intro k hk
              obtain ⟨xs, x1, x2, x3⟩ := ih (k + 1) (by omega)
              have hlt : k < fields.size := by omega
              obtain ⟨ho, fi, hfi, hne⟩ := hall k fields[k] (by simp [hlt])
              have hfk : fs[k]? = some fields[k].type := by rw [← hm]; simp [hlt]
              obtain ⟨y, _, hy⟩ := m2 k fields[k] (by simp [hlt])
              have hsf : supp T n fields[k].type = true := List.all_eq_true.1 hs _ (List.mem_of_getElem? hfk)
              obtain ⟨x, hx, hrx⟩ := opens_ok hT hS n _ hsf fuel _ y.1 y.2 hy
              refine ⟨x :: xs, by simp [x1], fun j f z hf hz => ?_, ?_⟩
              · cases j with
                | zero =>
                  simp at hz hf; subst hz
                  rw [hfk] at hf; cases hf
                  exact hx
                | succ j => exact x2 j f z (by rw [show k + 1 + j = k + (j + 1) by omega]; exact hf) (by simpa using hz)
              · simp only [RfL]
                refine ⟨_, cs.drop (offs T fs (k + 1)), ?_, hrx, x3⟩
                rw [ho, cellsOf_T hT hfi, offs_succ T hfk hfi, ← List.drop_drop, List.take_append_drop]
          obtain ⟨xs, x1, x2, x3⟩ := key fs.length 0 (by omega)
          refine ⟨.ag xs, ⟨xs, rfl, x1, fun j f y hf hy => x2 j f y (by simpa using hf) hy⟩, ?_⟩
          simp only [Rf]
          have : offs T fs 0 = 0 := by simp [offs]
          rw [this] at x3
          simpa using x3
        · cases h
end
end Go.EV
