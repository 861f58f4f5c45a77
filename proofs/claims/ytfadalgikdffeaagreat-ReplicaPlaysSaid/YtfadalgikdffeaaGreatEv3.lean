/- What it means that a plain value is what a model's value holds; what the model's memory may do without a change of that. -/
import Derived.Test.YtfadalgikdffeaaGreatEv2
import Derived.Laws.Append
import Derived.Laws.IdiomCopy
import Derived.Laws.Cells
set_option linter.unusedVariables false
set_option linter.unusedSimpArgs false
namespace Go.EV
open Go.RowKit

def MemAt (w : World) (b off : Nat) (cs : List Value) : Prop := ∀ j u, cs[j]? = some u → w.cell? ⟨b, off + j, none⟩ = some u
mutual
/-- Data over memory that nobody writes (the blocks of which F holds). -/
def Rf (w : World) (F : Nat → Prop) : X → List Value → Prop
  | .b v, cs => cs = [.bool v]
  | .i k n, cs => cs = [.int k n]
  | .s l, cs => cs = [.string ⟨l.toArray⟩]
  | .ag xs, cs => RfL w F xs cs
  | .ar d xs, cs => RfE w F d xs cs
  | .sl full xs, cs => ∃ a c, cs = [.slice a xs.length c] ∧ xs.length ≤ c ∧ (full = true → c = xs.length) ∧
      (xs = [] ∨ ∃ (a0 : Addr) (d : Nat) (cs' : List Value), a = some a0 ∧ a0.spot = none ∧ F a0.block ∧ RfE w F d xs cs' ∧ MemAt w a0.block a0.off cs')
  | .np, cs => cs = [.pointer none]
  | .pf x, cs => ∃ (a0 : Addr) (cs' : List Value), cs = [.pointer (some a0)] ∧ a0.spot = none ∧ F a0.block ∧ Rf w F x cs' ∧ MemAt w a0.block a0.off cs'
  | .nm, cs => cs = [.map none]
  | .nf, cs => cs = [.nilFunc]
  | .bot, _ | .tup _, _ | .hw _, _ | .hd _ _ _ _, _ | .pt _ _ _, _ | .fn _ _, _ | .ow _ _, _ | .ob _, _ => False
def RfL (w : World) (F : Nat → Prop) : List X → List Value → Prop
  | [], cs => cs = []
  | x :: xs, cs => ∃ c1 c2, cs = c1 ++ c2 ∧ Rf w F x c1 ∧ RfL w F xs c2
def RfE (w : World) (F : Nat → Prop) (d : Nat) : List X → List Value → Prop
  | [], cs => cs = []
  | x :: xs, cs => ∃ c1 c2, cs = c1 ++ c2 ∧ c1.length = d ∧ Rf w F x c1 ∧ RfE w F d xs c2
end

/-- Where a place lies: its block, the first cell, how many elements there is room for, the cells of one, how many there are. -/
structure RA where
  b : Nat
  o : Nat
  cap : Nat
  d : Nat
  n : Nat
mutual
def Rc (w : World) (F : Nat → Prop) (A : Nat → Option RA) : X → List Value → Prop
  | .ag xs, cs => RcL w F A xs cs
  | .bot, cs => ∃ u : Value, cs = [u] ∧ u.oneCell' = true
  | .hw g, cs => ∃ ra a c, A g = some ra ∧ cs = [.slice a ra.n c] ∧ ra.n ≤ c ∧ c ≤ ra.cap ∧ (c = 0 ∨ a = some ⟨ra.b, ra.o, none⟩)
  | .hd g lo len full, cs => ∃ ra a c, A g = some ra ∧ cs = [.slice a len c] ∧ len ≤ c ∧ lo + c ≤ ra.cap ∧ lo + len ≤ ra.n ∧ (full = true → c = len) ∧ (c = 0 ∨ a = some ⟨ra.b, ra.o + lo * ra.d, none⟩)
  | .pt g off _, cs => ∃ ra, A g = some ra ∧ 0 < ra.cap ∧ cs = [.pointer (some ⟨ra.b, ra.o + off, none⟩)]
  | .fn f cap, cs => ∃ c, RcL w F A cap c ∧ (cap.all fun x => !x.agg) = true ∧ cs = [.func (.func f) #[] c.toArray]
  | .b v, cs => Rf w F (.b v) cs | .i k n, cs => Rf w F (.i k n) cs | .s l, cs => Rf w F (.s l) cs | .ar d xs, cs => Rf w F (.ar d xs) cs | .sl f xs, cs => Rf w F (.sl f xs) cs
  | .np, cs => Rf w F .np cs | .pf x, cs => Rf w F (.pf x) cs | .nm, cs => Rf w F .nm cs | .nf, cs => Rf w F .nf cs
  | .tup _, _ | .ow _ _, _ | .ob _, _ => False
def RcL (w : World) (F : Nat → Prop) (A : Nat → Option RA) : List X → List Value → Prop
  | [], cs => cs = []
  | x :: xs, cs => ∃ c1 c2, cs = c1 ++ c2 ∧ Rc w F A x c1 ∧ RcL w F A xs c2
end

theorem rfE_len {w : World} {F : Nat → Prop} {d : Nat} : ∀ {xs : List X} {cs : List Value}, RfE w F d xs cs → cs.length = d * xs.length
  | [], cs, h => by simp [RfE] at h; simp [h]
  | x :: xs, cs, h => by
    simp only [RfE] at h
    obtain ⟨c1, c2, rfl, h1, _, h2⟩ := h
    have := rfE_len h2
    simp [h1, this, Nat.mul_add]; omega
mutual
theorem rf_len {w : World} {F : Nat → Prop} : ∀ {x : X} {cs : List Value}, Rf w F x cs → cs.length = x.size
  | .b v, cs, h => by simp [Rf] at h; simp [h, X.size]
  | .i k n, cs, h => by simp [Rf] at h; simp [h, X.size]
  | .s l, cs, h => by simp [Rf] at h; simp [h, X.size]
  | .ag xs, cs, h => by simp only [Rf] at h; simpa [X.size] using rfL_len h
  | .ar d xs, cs, h => by simp only [Rf] at h; simpa [X.size] using rfE_len h
  | .sl f xs, cs, h => by simp only [Rf] at h; obtain ⟨a, c, rfl, _⟩ := h; simp [X.size]
  | .np, cs, h => by simp [Rf] at h; simp [h, X.size]
  | .pf x, cs, h => by simp only [Rf] at h; obtain ⟨a, c, rfl, _⟩ := h; simp [X.size]
  | .nm, cs, h => by simp [Rf] at h; simp [h, X.size]
  | .nf, cs, h => by simp [Rf] at h; simp [h, X.size]
  | .bot, cs, h | .tup _, cs, h | .hw _, cs, h | .hd _ _ _ _, cs, h | .pt _ _ _, cs, h | .fn _ _, cs, h | .ow _ _, cs, h | .ob _, cs, h => by simp [Rf] at h
theorem rfL_len {w : World} {F : Nat → Prop} : ∀ {xs : List X} {cs : List Value}, RfL w F xs cs → cs.length = sizeL xs
  | [], cs, h => by simp [RfL] at h; simp [h, sizeL]
  | x :: xs, cs, h => by
    simp only [RfL] at h
    obtain ⟨c1, c2, rfl, h1, h2⟩ := h
    simp [sizeL, rf_len h1, rfL_len h2]
end
mutual
theorem rf_cell {w : World} {F : Nat → Prop} : ∀ {x : X} {cs : List Value}, Rf w F x cs → ∀ u ∈ cs, u.oneCell' = true
  | .b v, cs, h => by simp [Rf] at h; simp [h, Value.oneCell']
  | .i k n, cs, h => by simp [Rf] at h; simp [h, Value.oneCell']
  | .s l, cs, h => by simp [Rf] at h; simp [h, Value.oneCell']
  | .ag xs, cs, h => by simp only [Rf] at h; exact rfL_cell h
  | .ar d xs, cs, h => by simp only [Rf] at h; exact rfE_cell h
  | .sl f xs, cs, h => by simp only [Rf] at h; obtain ⟨a, c, rfl, _⟩ := h; simp [Value.oneCell']
  | .np, cs, h => by simp [Rf] at h; simp [h, Value.oneCell']
  | .pf x, cs, h => by simp only [Rf] at h; obtain ⟨a, c, rfl, _⟩ := h; simp [Value.oneCell']
  | .nm, cs, h => by simp [Rf] at h; simp [h, Value.oneCell']
  | .nf, cs, h => by simp [Rf] at h; simp [h, Value.oneCell']
  | .bot, cs, h | .tup _, cs, h | .hw _, cs, h | .hd _ _ _ _, cs, h | .pt _ _ _, cs, h | .fn _ _, cs, h | .ow _ _, cs, h | .ob _, cs, h => by simp [Rf] at h
theorem rfL_cell {w : World} {F : Nat → Prop} : ∀ {xs : List X} {cs : List Value}, RfL w F xs cs → ∀ u ∈ cs, u.oneCell' = true
  | [], cs, h => by simp [RfL] at h; simp [h]
  | x :: xs, cs, h => by
    simp only [RfL] at h
    obtain ⟨c1, c2, rfl, h1, h2⟩ := h
    intro u hu
    rcases List.mem_append.1 hu with hu | hu
    · exact rf_cell h1 u hu
    · exact rfL_cell h2 u hu
theorem rfE_cell {w : World} {F : Nat → Prop} {d : Nat} : ∀ {xs : List X} {cs : List Value}, RfE w F d xs cs → ∀ u ∈ cs, u.oneCell' = true
  | [], cs, h => by simp [RfE] at h; simp [h]
  | x :: xs, cs, h => by
    simp only [RfE] at h
    obtain ⟨c1, c2, rfl, _, h1, h2⟩ := h
    intro u hu
    rcases List.mem_append.1 hu with hu | hu
    · exact rf_cell h1 u hu
    · exact rfE_cell h2 u hu
end
/-- In w' all that F speaks of is as in w. -/
def Keeps (F : Nat → Prop) (w w' : World) : Prop := ∀ b, F b → w'.heap[b]? = w.heap[b]?
theorem Keeps.mem {F : Nat → Prop} {w w' : World} (h : Keeps F w w') {b off : Nat} {cs : List Value} (hb : F b) (hm : MemAt w b off cs) : MemAt w' b off cs :=
  fun j u hu => (World.cell?_of_block (w := w) (h b hb)).trans (hm j u hu)
mutual
theorem rf_mono {w w' : World} {F F' : Nat → Prop} (hF : ∀ b, F b → F' b) (hk : Keeps F w w') : ∀ {x : X} {cs : List Value}, Rf w F x cs → Rf w' F' x cs
  | .b v, cs, h => by simpa [Rf] using h
  | .i k n, cs, h => by simpa [Rf] using h
  | .s l, cs, h => by simpa [Rf] using h
  | .ag xs, cs, h => by simp only [Rf] at h ⊢; exact rfL_mono hF hk h
  | .ar d xs, cs, h => by simp only [Rf] at h ⊢; exact rfE_mono hF hk h
  | .sl f xs, cs, h => by
    simp only [Rf] at h ⊢
    obtain ⟨a, c, rfl, h1, h2, h3⟩ := h
    refine ⟨a, c, rfl, h1, h2, ?_⟩
    rcases h3 with h3 | ⟨a0, d, cs', ha, hs, hb, hr, hm⟩
    · exact .inl h3
    · exact .inr ⟨a0, d, cs', ha, hs, hF _ hb, rfE_mono hF hk hr, hk.mem hb hm⟩
  | .np, cs, h => by simpa [Rf] using h
  | .pf x, cs, h => by
    simp only [Rf] at h ⊢
    obtain ⟨a0, cs', rfl, hs, hb, hr, hm⟩ := h
    exact ⟨a0, cs', rfl, hs, hF _ hb, rf_mono hF hk hr, hk.mem hb hm⟩
  | .nm, cs, h => by simpa [Rf] using h
  | .nf, cs, h => by simpa [Rf] using h
  | .bot, cs, h | .tup _, cs, h | .hw _, cs, h | .hd _ _ _ _, cs, h | .pt _ _ _, cs, h | .fn _ _, cs, h | .ow _ _, cs, h | .ob _, cs, h => by simp [Rf] at h
theorem rfL_mono {w w' : World} {F F' : Nat → Prop} (hF : ∀ b, F b → F' b) (hk : Keeps F w w') : ∀ {xs : List X} {cs : List Value}, RfL w F xs cs → RfL w' F' xs cs
  | [], cs, h => by simpa [RfL] using h
  | x :: xs, cs, h => by
    simp only [RfL] at h ⊢
    obtain ⟨c1, c2, rfl, h1, h2⟩ := h
    exact ⟨c1, c2, rfl, rf_mono hF hk h1, rfL_mono hF hk h2⟩
theorem rfE_mono {w w' : World} {F F' : Nat → Prop} (hF : ∀ b, F b → F' b) (hk : Keeps F w w') {d : Nat} : ∀ {xs : List X} {cs : List Value}, RfE w F d xs cs → RfE w' F' d xs cs
  | [], cs, h => by simpa [RfE] using h
  | x :: xs, cs, h => by
    simp only [RfE] at h ⊢
    obtain ⟨c1, c2, rfl, hd, h1, h2⟩ := h
    exact ⟨c1, c2, rfl, hd, rf_mono hF hk h1, rfE_mono hF hk h2⟩
end
def ASub (A A' : Nat → Option RA) : Prop := ∀ g ra, A g = some ra → A' g = some ra
mutual
theorem rc_mono {w w' : World} {F F' : Nat → Prop} {A A' : Nat → Option RA} (hF : ∀ b, F b → F' b) (hk : Keeps F w w') (hA : ASub A A') : ∀ {x : X} {cs : List Value}, Rc w F A x cs → Rc w' F' A' x cs
  | .ag xs, cs, h => by simp only [Rc] at h ⊢; exact rcL_mono hF hk hA h
  | .bot, cs, h => by simpa [Rc] using h
  | .hw g, cs, h => by simp only [Rc] at h ⊢; obtain ⟨ra, a, c, h1, h2⟩ := h; exact ⟨ra, a, c, hA _ _ h1, h2⟩
  | .hd g lo len f, cs, h => by simp only [Rc] at h ⊢; obtain ⟨ra, a, c, h1, h2⟩ := h; exact ⟨ra, a, c, hA _ _ h1, h2⟩
  | .pt g o p, cs, h => by simp only [Rc] at h ⊢; obtain ⟨ra, h1, h2⟩ := h; exact ⟨ra, hA _ _ h1, h2⟩
  | .fn f cap, cs, h => by simp only [Rc] at h ⊢; obtain ⟨c, h1, h2⟩ := h; exact ⟨c, rcL_mono hF hk hA h1, h2⟩
  | .b v, cs, h => by simp only [Rc] at h ⊢; exact rf_mono hF hk h
  | .i k n, cs, h => by simp only [Rc] at h ⊢; exact rf_mono hF hk h
  | .s l, cs, h => by simp only [Rc] at h ⊢; exact rf_mono hF hk h
  | .ar d xs, cs, h => by simp only [Rc] at h ⊢; exact rf_mono hF hk h
  | .sl f xs, cs, h => by simp only [Rc] at h ⊢; exact rf_mono hF hk h
  | .np, cs, h => by simp only [Rc] at h ⊢; exact rf_mono hF hk h
  | .pf x, cs, h => by simp only [Rc] at h ⊢; exact rf_mono hF hk h
  | .nm, cs, h => by simp only [Rc] at h ⊢; exact rf_mono hF hk h
  | .nf, cs, h => by simp only [Rc] at h ⊢; exact rf_mono hF hk h
  | .tup _, cs, h | .ow _ _, cs, h | .ob _, cs, h => by simp [Rc] at h
theorem rcL_mono {w w' : World} {F F' : Nat → Prop} {A A' : Nat → Option RA} (hF : ∀ b, F b → F' b) (hk : Keeps F w w') (hA : ASub A A') : ∀ {xs : List X} {cs : List Value}, RcL w F A xs cs → RcL w' F' A' xs cs
  | [], cs, h => by simpa [RcL] using h
  | x :: xs, cs, h => by
    simp only [RcL] at h ⊢
    obtain ⟨c1, c2, rfl, h1, h2⟩ := h
    exact ⟨c1, c2, rfl, rc_mono hF hk hA h1, rcL_mono hF hk hA h2⟩
end
section
variable {w : World} {F : Nat → Prop} {A : Nat → Option RA}
mutual
theorem rc_len : ∀ {x : X} {cs : List Value}, Rc w F A x cs → cs.length = x.size
  | .ag xs, cs, h => by simp only [Rc] at h; simpa [X.size] using rcL_len h
  | .bot, cs, h => by simp only [Rc] at h; obtain ⟨u, rfl, _⟩ := h; simp [X.size]
  | .hw g, cs, h => by simp only [Rc] at h; obtain ⟨ra, a, c, _, rfl, _⟩ := h; simp [X.size]
  | .hd g lo len f, cs, h => by simp only [Rc] at h; obtain ⟨ra, a, c, _, rfl, _⟩ := h; simp [X.size]
  | .pt g o p, cs, h => by simp only [Rc] at h; obtain ⟨ra, _, _, rfl⟩ := h; simp [X.size]
  | .fn f cap, cs, h => by simp only [Rc] at h; obtain ⟨c, _, _, rfl⟩ := h; simp [X.size]
  | .b v, cs, h | .i k n, cs, h | .s l, cs, h | .ar d xs, cs, h | .sl f xs, cs, h | .np, cs, h | .pf x, cs, h | .nm, cs, h | .nf, cs, h => by simp only [Rc] at h; exact rf_len h
  | .tup _, cs, h | .ow _ _, cs, h | .ob _, cs, h => by simp [Rc] at h
theorem rcL_len : ∀ {xs : List X} {cs : List Value}, RcL w F A xs cs → cs.length = sizeL xs
  | [], cs, h => by simp [RcL] at h; simp [h, sizeL]
  | x :: xs, cs, h => by
    simp only [RcL] at h
    obtain ⟨c1, c2, rfl, h1, h2⟩ := h
    simp [sizeL, rc_len h1, rcL_len h2]
end
mutual
theorem rc_cell : ∀ {x : X} {cs : List Value}, Rc w F A x cs → ∀ u ∈ cs, u.oneCell' = true
  | .ag xs, cs, h => by simp only [Rc] at h; exact rcL_cell h
  | .bot, cs, h => by simp only [Rc] at h; obtain ⟨u, rfl, hu⟩ := h; simpa using hu
  | .hw g, cs, h => by simp only [Rc] at h; obtain ⟨ra, a, c, _, rfl, _⟩ := h; simp [Value.oneCell']
  | .hd g lo len f, cs, h => by simp only [Rc] at h; obtain ⟨ra, a, c, _, rfl, _⟩ := h; simp [Value.oneCell']
  | .pt g o p, cs, h => by simp only [Rc] at h; obtain ⟨ra, _, _, rfl⟩ := h; simp [Value.oneCell']
  | .fn f cap, cs, h => by simp only [Rc] at h; obtain ⟨c, _, _, rfl⟩ := h; simp [Value.oneCell']
  | .b v, cs, h | .i k n, cs, h | .s l, cs, h | .ar d xs, cs, h | .sl f xs, cs, h | .np, cs, h | .pf x, cs, h | .nm, cs, h | .nf, cs, h => by simp only [Rc] at h; exact rf_cell h
  | .tup _, cs, h | .ow _ _, cs, h | .ob _, cs, h => by simp [Rc] at h
theorem rcL_cell : ∀ {xs : List X} {cs : List Value}, RcL w F A xs cs → ∀ u ∈ cs, u.oneCell' = true
  | [], cs, h => by simp [RcL] at h; simp [h]
  | x :: xs, cs, h => by
    simp only [RcL] at h
    obtain ⟨c1, c2, rfl, h1, h2⟩ := h
    intro u hu
    rcases List.mem_append.1 hu with hu | hu
    · exact rc_cell h1 u hu
    · exact rcL_cell h2 u hu
end
mutual
theorem rc_rf : ∀ {x : X} {cs : List Value}, x.fz = true → Rc w F A x cs → Rf w F x cs
  | .ag xs, cs, hz, h => by simp only [Rc] at h; simp only [Rf]; exact rcL_rf (by simpa [X.fz] using hz) h
  | .bot, cs, hz, h | .hw g, cs, hz, h | .hd g lo len f, cs, hz, h | .pt g o p, cs, hz, h | .fn f cap, cs, hz, h | .tup _, cs, hz, h | .ow _ _, cs, hz, h | .ob _, cs, hz, h => by simp [X.fz] at hz
  | .b v, cs, _, h | .i k n, cs, _, h | .s l, cs, _, h | .ar d xs, cs, _, h | .sl f xs, cs, _, h | .np, cs, _, h | .pf x, cs, _, h | .nm, cs, _, h | .nf, cs, _, h => by simpa only [Rc] using h
theorem rcL_rf : ∀ {xs : List X} {cs : List Value}, fzL xs = true → RcL w F A xs cs → RfL w F xs cs
  | [], cs, _, h => by simpa [RfL, RcL] using h
  | x :: xs, cs, hz, h => by
    simp only [fzL, Bool.and_eq_true] at hz
    simp only [RcL] at h
    simp only [RfL]
    obtain ⟨c1, c2, rfl, h1, h2⟩ := h
    exact ⟨c1, c2, rfl, rc_rf hz.1 h1, rcL_rf hz.2 h2⟩
end
mutual
theorem rf_rc : ∀ {x : X} {cs : List Value}, Rf w F x cs → Rc w F A x cs
  | .ag xs, cs, h => by simp only [Rf] at h; simp only [Rc]; exact rfL_rcL h
  | .bot, cs, h | .hw g, cs, h | .hd g lo len f, cs, h | .pt g o p, cs, h | .fn f cap, cs, h | .tup _, cs, h | .ow _ _, cs, h | .ob _, cs, h => by simp [Rf] at h
  | .b v, cs, h | .i k n, cs, h | .s l, cs, h | .ar d xs, cs, h | .sl f xs, cs, h | .np, cs, h | .pf x, cs, h | .nm, cs, h | .nf, cs, h => by simpa only [Rc] using h
theorem rfL_rcL : ∀ {xs : List X} {cs : List Value}, RfL w F xs cs → RcL w F A xs cs
  | [], cs, h => by simpa [RfL, RcL] using h
  | x :: xs, cs, h => by
    simp only [RfL] at h
    simp only [RcL]
    obtain ⟨c1, c2, rfl, h1, h2⟩ := h
    exact ⟨c1, c2, rfl, rf_rc h1, rfL_rcL h2⟩
end
/-- The value of cells. -/
def val (x : X) (cs : List Value) : Value := if x.agg then .agg cs.toArray else cs.headD undef
def R1 (w : World) (F : Nat → Prop) (A : Nat → Option RA) (x : X) (v : Value) : Prop := ∃ cs, Rc w F A x cs ∧ v = val x cs
def RvL (w : World) (F : Nat → Prop) (A : Nat → Option RA) : List X → List Value → Prop
  | [], vs => vs = []
  | x :: xs, v :: vs => (x = .bot ∨ R1 w F A x v) ∧ RvL w F A xs vs
  | _ :: _, [] => False
def Rv (w : World) (F : Nat → Prop) (A : Nat → Option RA) (x : X) (v : Value) : Prop :=
  match x with
  | .bot => True
  | .tup xs => ∃ vs, v = .tuple vs.toArray ∧ RvL w F A xs vs
  | x => R1 w F A x v
theorem R1.mono {w' : World} {F' : Nat → Prop} {A' : Nat → Option RA} (hF : ∀ b, F b → F' b) (hk : Keeps F w w') (hA : ASub A A') {x : X} {v : Value} (h : R1 w F A x v) : R1 w' F' A' x v := by
  obtain ⟨cs, h1, h2⟩ := h
  exact ⟨cs, rc_mono hF hk hA h1, h2⟩
theorem RvL.mono {w' : World} {F' : Nat → Prop} {A' : Nat → Option RA} (hF : ∀ b, F b → F' b) (hk : Keeps F w w') (hA : ASub A A') : ∀ {xs : List X} {vs : List Value}, RvL w F A xs vs → RvL w' F' A' xs vs
  | [], vs, h => by simpa [RvL] using h
  | x :: xs, [], h => by simp [RvL] at h
  | x :: xs, v :: vs, h => by
    simp only [RvL] at h ⊢
    exact ⟨h.1.imp id (R1.mono hF hk hA), RvL.mono hF hk hA h.2⟩
theorem Rv.mono {w' : World} {F' : Nat → Prop} {A' : Nat → Option RA} (hF : ∀ b, F b → F' b) (hk : Keeps F w w') (hA : ASub A A') {x : X} {v : Value} (h : Rv w F A x v) : Rv w' F' A' x v := by
  unfold Rv at h ⊢
  split <;> simp only at h
  · trivial
  · obtain ⟨vs, h1, h2⟩ := h; exact ⟨vs, h1, h2.mono hF hk hA⟩
  · exact R1.mono hF hk hA h
theorem Rv.one {x : X} {v : Value} (h : Rv w F A x v) (hb : x.isBot = false) (ht : x.isTup = false) : R1 w F A x v := by
  unfold Rv at h
  split at h <;> first | (simp [X.isBot] at hb; done) | (simp [X.isTup] at ht; done) | exact h
theorem R1.rv {x : X} {v : Value} (h : R1 w F A x v) : Rv w F A x v := by
  unfold Rv
  split
  · trivial
  · obtain ⟨cs, h, _⟩ := h; simp [Rc] at h
  · exact h
theorem R1.single {x : X} {v : Value} (h : R1 w F A x v) (ha : x.agg = false) : Rc w F A x [v] := by
  obtain ⟨cs, h, rfl⟩ := h
  have h1 := rc_len h
  have h2 : x.size = 1 := by cases x <;> simp_all [X.agg, X.size]
  rw [h2] at h1
  match cs, h1 with
  | [u], _ => simpa [val, ha] using h
theorem R1.of_single {x : X} {v : Value} (h : Rc w F A x [v]) (ha : x.agg = false) : R1 w F A x v := ⟨[v], h, by simp [val, ha]⟩
/-- The cells of a value that can be stored. -/
theorem R1.cells {x : X} {v : Value} (h : R1 w F A x v) : Rc w F A x v.cells.toList := by
  obtain ⟨cs, h, rfl⟩ := h
  unfold val
  split
  · simpa [Value.cells] using h
  · rename_i ha
    have h1 := rc_len h
    have h2 : x.size = 1 := by cases x <;> simp_all [X.agg, X.size]
    rw [h2] at h1
    match cs, h1 with
    | [u], _ =>
      have := rc_cell h u (by simp)
      cases u <;> simp_all [Value.cells, Value.oneCell']
end
section
variable {w : World} {F : Nat → Prop}
mutual
theorem rf_wk : ∀ {x : X} {cs : List Value}, Rf w F x cs → Rf w F x.wk cs
  | .ag xs, cs, h => by simp only [Rf, X.wk] at h ⊢; exact rfL_wk h
  | .sl f xs, cs, h => by
    simp only [Rf, X.wk] at h ⊢
    obtain ⟨a, c, h1, h2, h3, h4⟩ := h
    exact ⟨a, c, h1, h2, (fun e => by cases e), h4⟩
  | .pf x, cs, h => by
    simp only [Rf, X.wk] at h ⊢
    obtain ⟨a0, cs', h1, h2, h3, h4, h5⟩ := h
    exact ⟨a0, cs', h1, h2, h3, rf_wk h4, h5⟩
  | .b v, cs, h | .i k n, cs, h | .s l, cs, h | .ar d xs, cs, h | .np, cs, h | .nm, cs, h | .nf, cs, h => by simpa only [X.wk] using h
  | .bot, cs, h | .tup _, cs, h | .hw _, cs, h | .hd _ _ _ _, cs, h | .pt _ _ _, cs, h | .fn _ _, cs, h | .ow _ _, cs, h | .ob _, cs, h => by simp [Rf] at h
theorem rfL_wk : ∀ {xs : List X} {cs : List Value}, RfL w F xs cs → RfL w F (wkL xs) cs
  | [], cs, h => by simpa only [RfL, wkL] using h
  | x :: xs, cs, h => by
    simp only [RfL, wkL] at h ⊢
    obtain ⟨c1, c2, h1, h2, h3⟩ := h
    exact ⟨c1, c2, h1, rf_wk h2, rfL_wk h3⟩
end
mutual
theorem wk_size : ∀ x : X, x.wk.size = x.size
  | .ag xs => by simp only [X.wk, X.size]; exact wkL_size xs
  | .sl _ _ | .pf _ | .tup _ | .ob _ | .b _ | .i _ _ | .s _ | .ar _ _ | .np | .nm | .nf | .bot | .hw _ | .hd _ _ _ _ | .pt _ _ _ | .fn _ _ | .ow _ _ => by simp [X.wk, X.size]
theorem wkL_size : ∀ xs : List X, sizeL (wkL xs) = sizeL xs
  | [] => rfl
  | x :: xs => by simp only [wkL, sizeL, wk_size x, wkL_size xs]
end
theorem wk_agg (x : X) : x.wk.agg = x.agg := by cases x <;> rfl
theorem wk_bot (x : X) : x.wk.isBot = x.isBot := by cases x <;> rfl
theorem wk_tup (x : X) : x.wk.isTup = x.isTup := by cases x <;> rfl
theorem wk_arD (x : X) : x.wk.arD = x.arD := by cases x <;> rfl
mutual
theorem wk_fz : ∀ x : X, x.wk.fz = x.fz
  | .ag xs => by simp only [X.wk, X.fz]; exact wkL_fz xs
  | .sl _ _ | .pf _ | .tup _ | .ob _ | .b _ | .i _ _ | .s _ | .ar _ _ | .np | .nm | .nf | .bot | .hw _ | .hd _ _ _ _ | .pt _ _ _ | .fn _ _ | .ow _ _ => by simp [X.wk, X.fz]
theorem wkL_fz : ∀ xs : List X, fzL (wkL xs) = fzL xs
  | [] => rfl
  | x :: xs => by simp only [wkL, fzL, wk_fz x, wkL_fz xs]
end
theorem wkL_len : ∀ xs : List X, (wkL xs).length = xs.length
  | [] => rfl
  | x :: xs => by simp [wkL, wkL_len xs]
theorem wk_val (x : X) (cs : List Value) : val x.wk cs = val x cs := by simp only [val, wk_agg]
theorem rfE_wk {d : Nat} : ∀ {xs : List X} {cs : List Value}, RfE w F d xs cs → RfE w F d (wkL xs) cs
  | [], cs, h => by simpa only [RfE, wkL] using h
  | x :: xs, cs, h => by
    simp only [RfE, wkL] at h ⊢
    obtain ⟨c1, c2, h1, h2, h3, h4⟩ := h
    exact ⟨c1, c2, h1, h2, rf_wk h3, rfE_wk h4⟩
theorem rf_wkA {x : X} {cs : List Value} (h : Rf w F x cs) : Rf w F x.wkA cs := by
  cases x with
  | ar d xs => simp only [Rf, X.wkA] at h ⊢; exact rfE_wk h
  | _ => exact h
theorem wkA_size (x : X) : x.wkA.size = x.size := by cases x <;> simp [X.wkA, X.size, wkL_len]
theorem wkA_agg (x : X) : x.wkA.agg = x.agg := by cases x <;> rfl
theorem wkA_val (x : X) (cs : List Value) : val x.wkA cs = val x cs := by simp only [val, wkA_agg]
end
end Go.EV
