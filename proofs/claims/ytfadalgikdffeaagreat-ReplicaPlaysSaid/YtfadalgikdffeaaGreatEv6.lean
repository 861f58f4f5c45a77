/- The operations that change nothing but their slot, one by one. -/
import Derived.Test.YtfadalgikdffeaaGreatEv5
import Derived.Lib.Strings
import Derived.Laws.Small
set_option linter.unusedVariables false
set_option linter.unusedSimpArgs false
namespace Go.EV
open Go.RowKit
section
variable {P : Program} {T : TT} {w : World} {F : Nat → Prop} {A : Nat → Option RA}
theorem td_ok (hT : TOk P T) {t : Nat} {d : TD} (h : tdOf T t = some d) : ∃ ti, T t = some ti ∧ ti.td = d := Option.map_eq_some_iff.1 h
theorem desc_ok (hT : TOk P T) {t : Nat} {ti : TI} (h : T t = some ti) : ∃ i d, P.info? t = some i ∧ P.underlying t = some d ∧ i.size = ti.size ∧ i.bytes = ti.bytes ∧ descOk T d ti.td ∧ d.isRow = ti.td.agg := by
  obtain ⟨i, d, z, h1, h2, h3, h4, _, _, h5, h6⟩ := (hT t ti h).ex
  exact ⟨i, d, h1, h2, h3, h4, h5, h6⟩

theorem arith_ok {op : BinOp} {k : IntKind} {a b : Int} {z : X} (h : arith op k a b = some z) (t : TypeId) (x y : Operand) :
    ∃ v, ((do eqGuard op t x y (.int k a) (.int k b); binOp op t (.int k a) (.int k b)) : Sem Value).run P w = .ok v w ∧ Rv w F A z v := by
  cases op <;> simp only [arith, Option.some.injEq] at h <;> (try (split at h <;> (try cases h))) <;> (try subst h) <;> (try (cases h; done)) <;>
    (first
      | (refine ⟨_, ?_, int_ok _ _⟩; simp [eqGuard, binOp, Op.intArith, Op.intDiv, Op.intBits, Op.intCmp, *]; done)
      | (refine ⟨_, ?_, bool_ok _⟩; simp [eqGuard, binOp, Op.intArith, Op.intDiv, Op.intBits, Op.intCmp, *]; done)
      | (simp_all; done))
theorem strop_ok {op : BinOp} {a b : List UInt8} {z : X} (h : strop op a b = some z) (t : TypeId) (x y : Operand) :
    ∃ v, ((do eqGuard op t x y (.string ⟨a.toArray⟩) (.string ⟨b.toArray⟩); binOp op t (.string ⟨a.toArray⟩) (.string ⟨b.toArray⟩)) : Sem Value).run P w = .ok v w ∧ Rv w F A z v := by
  have e : ∀ l : List UInt8, (⟨l.toArray⟩ : ByteArray).toList = l := fun l => by rw [Lib.toList_data]
  have ap : (⟨a.toArray⟩ : ByteArray) ++ ⟨b.toArray⟩ = ⟨(a ++ b).toArray⟩ := by
    apply ByteArray.ext
    simp [ByteArray.data_append]
  cases op <;> simp only [strop, Option.some.injEq] at h <;> (try (split at h <;> (try cases h))) <;> (try subst h) <;> (try (cases h; done))
  case add.isTrue hle =>
    refine ⟨.string ⟨(a ++ b).toArray⟩, ?_, str_ok _⟩
    have h1 : ¬ (9223372036854775807 < (a.length : Int) + (b.length : Int)) := by omega
    simp [eqGuard, binOp, Op.stringOp, ap, ByteArray.size, h1, IntKind.max, IntKind.bits, IntKind.signed]
  all_goals
    refine ⟨_, ?_, bool_ok _⟩
    simp [eqGuard, binOp, Op.stringOp, e]

theorem pt_of {g off : Nat} {p : List Nat} {v : Value} (h : Rv w F A (.pt g off p) v) : ∃ ra, A g = some ra ∧ 0 < ra.cap ∧ v = .pointer (some ⟨ra.b, ra.o + off, none⟩) := by
  have := (Rv.one h rfl rfl).single rfl
  simp only [Rc] at this
  obtain ⟨ra, h1, h2, h3⟩ := this
  exact ⟨ra, h1, h2, by simpa using h3⟩
theorem pf_of {x : X} {v : Value} (h : Rv w F A (.pf x) v) : ∃ (a0 : Addr) (cs : List Value), v = .pointer (some a0) ∧ a0.spot = none ∧ F a0.block ∧ Rf w F x cs ∧ MemAt w a0.block a0.off cs := by
  have := (Rv.one h rfl rfl).single rfl
  simp only [Rc, Rf] at this
  obtain ⟨a0, cs, h1, h2⟩ := this
  exact ⟨a0, cs, by simpa using h1, h2⟩
theorem np_of {v : Value} (h : Rv w F A .np v) : v = .pointer none := by
  have := (Rv.one h rfl rfl).single rfl
  simpa [Rc, Rf] using this
theorem pf_ok {x : X} {a0 : Addr} {cs : List Value} (hs : a0.spot = none) (hF : F a0.block) (hr : Rf w F x cs) (hm : MemAt w a0.block a0.off cs) : Rv w F A (.pf x) (.pointer (some a0)) :=
  R1.rv (R1.of_single (by simp only [Rc, Rf]; exact ⟨a0, cs, rfl, hs, hF, hr, hm⟩) rfl)
theorem pt_ok {g off : Nat} {p : List Nat} {ra : RA} (h : A g = some ra) (hc : 0 < ra.cap) : Rv w F A (.pt g off p) (.pointer (some ⟨ra.b, ra.o + off, none⟩)) :=
  R1.rv (R1.of_single (by simp only [Rc]; exact ⟨ra, h, hc, rfl⟩) rfl)
theorem spot_eta {a : Addr} (h : a.spot = none) : a = ⟨a.block, a.off, none⟩ := by cases a; simp_all

theorem equal_step (t : TypeId) (x y : Value) : Op.equal t x y = Op.equalIn (9999 + 1) t x y := rfl
theorem equal_ptr {t e : TypeId} (ht : P.underlying t = some (.pointer e)) (p q : Option Addr) (h : p = none ∨ q = none) : (Op.equal t (.pointer p) (.pointer q)).run P w = .ok (p.isNone && q.isNone) w := by
  rw [equal_step, Op.equalIn]
  generalize Op.equalIn 9999 = f
  rcases h with rfl | rfl
  · cases q <;> simp [run_underlying ht]
  · cases p <;> simp [run_underlying ht]
theorem equal_bool {t : TypeId} (ht : P.underlying t = some .bool) (p q : Bool) : (Op.equal t (.bool p) (.bool q)).run P w = .ok (p == q) w := by
  rw [equal_step, Op.equalIn]
  generalize Op.equalIn 9999 = f
  simp [run_underlying ht]
theorem binv_ptr {op : BinOp} {r : Bool} {z : X} (hop : (match op, (some r : Option Bool) with | .eql, some r => some (X.b r) | .neq, some r => some (.b !r) | _, _ => none) = some z) {a b : Value} {t : TypeId} {e : TypeId} (ht : P.underlying t = some (.pointer e)) (x y : Operand)
    (h : (∃ p q, a = .pointer p ∧ b = .pointer q ∧ (p = none ∨ q = none) ∧ r = (p.isNone && q.isNone))) :
    ∃ v, ((do eqGuard op t x y a b; binOp op t a b) : Sem Value).run P w = .ok v w ∧ Rv w F A z v := by
  obtain ⟨p, q, rfl, rfl, h1, rfl⟩ := h
  cases op <;> simp only [Option.some.injEq] at hop <;> (try (cases hop; done)) <;> subst hop <;> refine ⟨_, ?_, bool_ok _⟩ <;>
    simp [eqGuard, binOp, equal_ptr ht p q h1]
theorem binv_ok (hT : TOk P T) {op : BinOp} {t : TypeId} {x y z : X} (h : binv T op t x y = some z) {a b : Value} (ha : Rv w F A x a) (hb : Rv w F A y b) (xo yo : Operand) :
    ∃ v, ((do eqGuard op t xo yo a b; binOp op t a b) : Sem Value).run P w = .ok v w ∧ Rv w F A z v := by
  unfold binv at h
  split at h
  · rename_i k a' k' b'
    obtain rfl := int_of ha
    obtain rfl := int_of hb
    split at h
    · split at h
      · cases h
      · cases h
        refine ⟨_, ?_, int_ok _ _⟩
        simp [eqGuard, binOp, Op.shift, *]
    · split at h
      · cases h
      · cases h
        refine ⟨_, ?_, int_ok _ _⟩
        simp [eqGuard, binOp, Op.shift, *]
    · split at h
      · rename_i hk
        subst hk
        exact arith_ok h t xo yo
      · cases h
  · obtain rfl := str_of ha
    obtain rfl := str_of hb
    exact strop_ok h t xo yo
  · obtain rfl := bool_of ha
    obtain rfl := bool_of hb
    split at h
    · rename_i hd
      obtain ⟨ti, h1, h2⟩ := td_ok hT hd
      obtain ⟨i, d, _, hu, _, _, hdesc, _⟩ := desc_ok hT h1
      rw [h2] at hdesc
      simp only [descOk] at hdesc
      subst hdesc
      split at h <;> cases h <;> refine ⟨_, ?_, bool_ok _⟩ <;> simp [eqGuard, binOp, equal_bool hu]
    · cases h
  · rename_i hn1 hn2 hn3
    split at h
    · rename_i e hd
      obtain ⟨ti, h1, h2⟩ := td_ok hT hd
      obtain ⟨i, d, _, hu, _, _, hdesc, _⟩ := desc_ok hT h1
      rw [h2] at hdesc
      simp only [descOk] at hdesc
      subst hdesc
      have key : ∀ r, ptrEq x y = some r → ∃ p q, a = .pointer p ∧ b = .pointer q ∧ (p = none ∨ q = none) ∧ r = (p.isNone && q.isNone) := by
        intro r hr
        unfold ptrEq at hr
        split at hr <;> cases hr
        · exact ⟨none, none, np_of ha, np_of hb, .inl rfl, rfl⟩
        · obtain ⟨ra, _, _, e⟩ := pt_of hb; exact ⟨none, _, np_of ha, e, .inl rfl, rfl⟩
        · obtain ⟨a0, _, e, _⟩ := pf_of hb; exact ⟨none, _, np_of ha, e, .inl rfl, rfl⟩
        · obtain ⟨ra, _, _, e⟩ := pt_of ha; exact ⟨_, none, e, np_of hb, .inr rfl, rfl⟩
        · obtain ⟨a0, _, e, _⟩ := pf_of ha; exact ⟨_, none, e, np_of hb, .inr rfl, rfl⟩
      cases hr : ptrEq x y with
      | none => rw [hr] at h; cases op <;> simp at h
      | some r =>
        rw [hr] at h
        exact binv_ptr h hu xo yo (key r hr)
    · cases h
theorem mm_ok {mx : Bool} {x y z : X} (h : mmX mx x y = some z) {a b : Value} (ha : Rv w F A x a) (hb : Rv w F A y b) {ts : Array TypeId} {t : TypeId} :
    (mx = false → ∃ v, (Builtin.min_ ts t #[a, b]).run P w = .ok v w ∧ Rv w F A z v) ∧ (mx = true → ∃ v, (Builtin.max_ ts t #[a, b]).run P w = .ok v w ∧ Rv w F A z v) := by
  unfold mmX at h
  split at h
  · split at h
    · rename_i hk
      cases h
      obtain rfl := int_of ha
      obtain rfl := int_of hb
      constructor
      · rintro rfl
        exact ⟨_, run_min_int2 w ts t _ _ _ _, int_ok _ _⟩
      · rintro rfl
        exact ⟨_, run_max_int2 w ts t _ _ _ _, int_ok _ _⟩
    · cases h
  · cases h
theorem unv_ok {op : UnOp} {x z : X} (h : unv op x = some z) {a : Value} (ha : Rv w F A x a) : ∃ v, (Op.unary op a).run P w = .ok v w ∧ Rv w F A z v := by
  unfold unv at h
  split at h
  · obtain rfl := bool_of ha
    split at h <;> cases h
    exact ⟨_, by simp [Op.unary], bool_ok _⟩
  · obtain rfl := int_of ha
    split at h <;> cases h
    · exact ⟨_, by simp [Op.unary, Op.intArith], int_ok _ _⟩
    · exact ⟨_, by simp [Op.unary, Op.intBits], int_ok _ _⟩
  · cases h
theorem ldV_ok (hT : TOk P T) {r : Nat → Option X} {t : Nat} {x z : X} (h : ldV T r t x = some z) {a : Value} (ha : Rv w F A x a)
    (hr : ∀ g c, r g = some c → ∃ ra cs, A g = some ra ∧ Rc w F A c cs ∧ (0 < ra.cap → MemAt w ra.b ra.o cs)) :
    ∃ v, (Instr.loadAt t a).run P w = .ok v w ∧ Rv w F A z v := by
  unfold ldV at h
  split at h
  · rename_i ti ht
    split at h
    · rename_i g off p
      obtain ⟨ra, hA, hc, rfl⟩ := pt_of ha
      split at h
      · rename_i c hg
        split at h
        · rename_i y o hn
          split at h
          · rename_i hh
            obtain ⟨rfl, hf⟩ := hh
            cases h
            obtain ⟨ra', cs, hA', hrc, hm⟩ := hr g c hg
            rw [hA] at hA'; cases hA'
            obtain ⟨c1, c2, c3, rfl, hl, hry, _⟩ := navC hn hrc
            have hm2 := (hm hc).mid
            rw [hl] at hm2
            exact ⟨_, run_loadAt hT ht hf hry hm2, R1.rv ⟨c2, hry, rfl⟩⟩
          · cases h
        · cases h
      · cases h
    · obtain ⟨a0, cs, rfl, hs, hF, hrf, hm⟩ := pf_of ha
      split at h
      · rename_i hf
        cases h
        rw [spot_eta hs]
        exact ⟨_, run_loadAt hT ht hf (rf_rc (A := A) hrf) hm, R1.rv ⟨cs, rf_rc hrf, rfl⟩⟩
      · cases h
    · cases h
  · cases h

theorem st_ok (hT : TOk P T) {t : Nat} {ti : TI} (ht : T t = some ti) {fs : List Nat} (hd : ti.td = .st fs) {f : Nat} (hf : f < fs.length) : ∃ fields fld fi, P.underlying t = some (.struct fields) ∧ fields[f]? = some fld ∧ fld.offset = offs T fs f ∧ fs[f]? = some fld.type ∧ T fld.type = some fi ∧ fi.size ≠ 0 := by
  obtain ⟨i, d, _, hu, _, _, hdesc, _⟩ := desc_ok hT ht
  rw [hd] at hdesc
  simp only [descOk] at hdesc
  obtain ⟨fields, rfl, hm, hall⟩ := hdesc
  have hlt : f < fields.size := by rw [← hm] at hf; simpa using hf
  obtain ⟨ho, fi, h1, h2⟩ := hall f fields[f] (by simp [hlt])
  exact ⟨fields, fields[f], fi, hu, by simp [hlt], ho, by rw [← hm]; simp [hlt], h1, h2⟩
theorem run_sizeOf_T (hT : TOk P T) {t : Nat} {ti : TI} (ht : T t = some ti) : (sizeOf t).run P w = .ok ti.size w := by
  obtain ⟨i, d, hi, _, hs, _⟩ := desc_ok hT ht
  simp [sizeOf, typeInfo, hi, hs]
theorem fldA_ok (hT : TOk P T) {t f : Nat} {x z : X} (h : fldA T t f x = some z) {a : Value} (ha : Rv w F A x a) : ∃ v, (Instr.fieldAt t a f).run P w = .ok v w ∧ Rv w F A z v := by
  unfold fldA at h
  split at h
  · rename_i g off p
    obtain ⟨ra, hA, hc, rfl⟩ := pt_of ha
    split at h
    · rename_i fs _ _ _ ht
      split at h
      · rename_i hlt
        cases h
        obtain ⟨fields, fld, fi, hu, hfl, ho, _, hfi, hne⟩ := st_ok hT ht rfl hlt
        refine ⟨_, ?_, pt_ok hA hc⟩
        simp [Instr.fieldAt, run_underlying hu, hfl, Instr.sureAddr, fieldPlace, run_sizeOf_T hT hfi, hne, Addr.add_mid, ho, Nat.add_assoc]
      · cases h
    · cases h
  · rename_i xs
    obtain ⟨a0, cs, rfl, hs, hF, hrf, hm⟩ := pf_of ha
    split at h
    · rename_i fs _ _ _ ht
      split at h
      · rename_i hlt
        obtain ⟨y, hy, rfl⟩ := Option.map_eq_some_iff.1 h
        obtain ⟨fields, fld, fi, hu, hfl, ho, _, hfi, hne⟩ := st_ok hT ht rfl hlt.1
        simp only [Rf] at hrf
        obtain ⟨c1, c2, c3, rfl, hl, hry, _⟩ := rfL_split hrf hy
        have hm2 := hm.mid
        rw [hl, hlt.2] at hm2
        refine ⟨_, ?_, pf_ok (a0 := ⟨a0.block, a0.off + offs T fs f, none⟩) rfl hF hry hm2⟩
        rw [spot_eta hs]
        simp [Instr.fieldAt, run_underlying hu, hfl, Instr.sureAddr, fieldPlace, run_sizeOf_T hT hfi, hne, Addr.add_mid, ho, Nat.add_assoc]
      · cases h
    · cases h
  · cases h
theorem sl_of {f : Bool} {xs : List X} {v : Value} (h : Rv w F A (.sl f xs) v) : ∃ a c, v = .slice a xs.length c ∧ xs.length ≤ c ∧ (f = true → c = xs.length) ∧
      (xs = [] ∨ ∃ (a0 : Addr) (d : Nat) (cs' : List Value), a = some a0 ∧ a0.spot = none ∧ F a0.block ∧ RfE w F d xs cs' ∧ MemAt w a0.block a0.off cs') := by
  have := (Rv.one h rfl rfl).single rfl
  simp only [Rc, Rf] at this
  obtain ⟨a, c, h1, h2⟩ := this
  exact ⟨a, c, by simpa using h1, h2⟩
theorem sl_ok {f : Bool} {xs : List X} {a : Option Addr} {c : Nat} (h1 : xs.length ≤ c) (h2 : f = true → c = xs.length) (h3 : xs = [] ∨ ∃ (a0 : Addr) (d : Nat) (cs' : List Value), a = some a0 ∧ a0.spot = none ∧ F a0.block ∧ RfE w F d xs cs' ∧ MemAt w a0.block a0.off cs') :
    Rv w F A (.sl f xs) (.slice a xs.length c) := R1.rv (R1.of_single (by simp only [Rc, Rf]; exact ⟨a, c, rfl, h1, h2, h3⟩) rfl)
theorem hw_of {g : Nat} {v : Value} (h : Rv w F A (.hw g) v) : ∃ ra a c, A g = some ra ∧ v = .slice a ra.n c ∧ ra.n ≤ c ∧ c ≤ ra.cap ∧ (c = 0 ∨ a = some ⟨ra.b, ra.o, none⟩) := by
  have := (Rv.one h rfl rfl).single rfl
  simp only [Rc] at this
  obtain ⟨ra, a, c, h0, h1, h2⟩ := this
  exact ⟨ra, a, c, h0, by simpa using h1, h2⟩
theorem hw_ok {g : Nat} {ra : RA} {a : Option Addr} {c : Nat} (h0 : A g = some ra) (h1 : ra.n ≤ c) (h2 : c ≤ ra.cap) (h3 : c = 0 ∨ a = some ⟨ra.b, ra.o, none⟩) : Rv w F A (.hw g) (.slice a ra.n c) :=
  R1.rv (R1.of_single (by simp only [Rc]; exact ⟨ra, a, c, h0, rfl, h1, h2, h3⟩) rfl)
theorem hd_of {g lo len : Nat} {f : Bool} {v : Value} (h : Rv w F A (.hd g lo len f) v) : ∃ ra a c, A g = some ra ∧ v = .slice a len c ∧ len ≤ c ∧ lo + c ≤ ra.cap ∧ lo + len ≤ ra.n ∧ (f = true → c = len) ∧ (c = 0 ∨ a = some ⟨ra.b, ra.o + lo * ra.d, none⟩) := by
  have := (Rv.one h rfl rfl).single rfl
  simp only [Rc] at this
  obtain ⟨ra, a, c, h0, h1, h2⟩ := this
  exact ⟨ra, a, c, h0, by simpa using h1, h2⟩
theorem hd_ok {g lo len : Nat} {f : Bool} {ra : RA} {a : Option Addr} {c : Nat} (h0 : A g = some ra) (h1 : len ≤ c) (h2 : lo + c ≤ ra.cap) (h4 : lo + len ≤ ra.n) (h5 : f = true → c = len) (h3 : c = 0 ∨ a = some ⟨ra.b, ra.o + lo * ra.d, none⟩) : Rv w F A (.hd g lo len f) (.slice a len c) :=
  R1.rv (R1.of_single (by simp only [Rc]; exact ⟨ra, a, c, h0, rfl, h1, h2, h4, h5, h3⟩) rfl)
/-- What the places are. -/
def Places (w : World) (F : Nat → Prop) (A : Nat → Option RA) (r : Nat → Option X) : Prop :=
  ∀ g c, r g = some c → ∃ ra cs, A g = some ra ∧ RootOk w F A ra c cs
theorem Places.mem {r : Nat → Option X} (hr : Places w F A r) {g : Nat} {c : X} (h : r g = some c) : ∃ ra cs, A g = some ra ∧ Rc w F A c cs ∧ (0 < ra.cap → MemAt w ra.b ra.o cs) := by
  obtain ⟨ra, cs, h1, h2⟩ := hr g c h
  exact ⟨ra, cs, h1, h2.rc, fun hc => (h2.own hc).mem⟩
theorem Places.ar {r : Nat → Option X} (hr : Places w F A r) {g d : Nat} {c : List X} (h : r g = some (.ar d c)) {ra : RA} (hA : A g = some ra) : ∃ cs, RfE w F d c cs ∧ ra.d = d ∧ ra.n = c.length ∧ ra.n ≤ ra.cap ∧ (0 < ra.cap → Own w ra.b ra.o cs (ra.cap * ra.d)) := by
  obtain ⟨rb, cs, h1, h2⟩ := hr g _ h
  rw [hA] at h1; cases h1
  have := h2.rc
  simp only [Rc, Rf] at this
  have hd := h2.dim
  simp only [dimOk] at hd
  exact ⟨cs, this, hd.1, hd.2, h2.cap, h2.own⟩
theorem idxA_ok (hT : TOk P T) {r : Nat → Option X} (hr : Places w F A r) {t : Nat} {k : IntKind} {n : Int} {x z : X} (h : idxA T r t x n = some z) {a : Value} (ha : Rv w F A x a) : ∃ v, (Instr.indexAt t a (.int k n)).run P w = .ok v w ∧ Rv w F A z v := by
  unfold idxA at h
  split at h
  · rename_i e _ _ _ ht
    obtain ⟨i, d, _, hu, _, _, hdesc, _⟩ := desc_ok hT ht
    simp only [descOk] at hdesc
    subst hdesc
    split at h
    · rename_i ei he
      split at h
      · rename_i f xs
        obtain ⟨a, c, rfl, h1, h2, h3⟩ := sl_of ha
        split at h
        · rename_i hn
          split at h
          · rename_i y hy
            split at h
            · rename_i hs
              cases h
              have hlt := (List.getElem?_eq_some_iff.1 hy).1
              rcases h3 with rfl | ⟨a0, d, cs, rfl, hsp, hF, hrf, hm⟩
              · simp at hlt
              · obtain ⟨c1, c2, c3, rfl, hl, hd, hry, _⟩ := rfE_split hrf hy
                have hd2 : d = ei.size := by rw [← hs, ← rf_len hry, hd]
                have hm2 := hm.mid
                rw [hl, hd2] at hm2
                refine ⟨_, ?_, pf_ok (a0 := ⟨a0.block, a0.off + n.toNat * ei.size, none⟩) rfl hF hry hm2⟩
                rw [spot_eta hsp]
                have : n < (xs.length : Int) := by omega
                simp [Instr.indexAt, asIntOf, run_underlying hu, hn, this, run_sizeOf_T hT he, Addr.add_mid]
            · cases h
          · cases h
        · cases h
      · rename_i g
        obtain ⟨ra, a, c, hA, rfl, h1, h2, h3⟩ := hw_of ha
        split at h
        · rename_i d c' hg
          split at h
          · rename_i hn
            cases h
            obtain ⟨cs, hrf, hd, hlen, hcap, hown⟩ := hr.ar hg hA
            have hc : 0 < ra.cap := by omega
            refine ⟨_, ?_, pt_ok hA hc⟩
            rcases h3 with h3 | rfl
            · omega
            · have : n < (ra.n : Int) := by omega
              simp [Instr.indexAt, asIntOf, run_underlying hu, hn.1, this, run_sizeOf_T hT he, Addr.add_mid]
          · cases h
        · cases h
      · rename_i g lo len f
        obtain ⟨ra, a, c, hA, rfl, h1, h2, h3, h4, h5⟩ := hd_of ha
        split at h
        · rename_i d c' hg
          split at h
          · rename_i hn
            cases h
            obtain ⟨cs, hrf, hd, hlen, hcap, hown⟩ := hr.ar hg hA
            have hc : 0 < ra.cap := by omega
            refine ⟨_, ?_, pt_ok hA hc⟩
            rcases h5 with h5 | rfl
            · omega
            · simp [Instr.indexAt, asIntOf, run_underlying hu, hn.1, hn.2.1, run_sizeOf_T hT he, Addr.add_mid, hd, hn.2.2, Nat.add_mul, Nat.add_assoc]
          · cases h
        · cases h
      · cases h
    · cases h
  · rename_i m e _ _ _ ht
    obtain ⟨i, d, _, hu, _, _, hdesc, _⟩ := desc_ok hT ht
    simp only [descOk] at hdesc
    subst hdesc
    split at h
    · rename_i ei he
      split at h
      · rename_i g off p
        obtain ⟨ra, hA, hc, rfl⟩ := pt_of ha
        split at h
        · rename_i hn
          cases h
          refine ⟨_, ?_, pt_ok hA hc⟩
          simp [Instr.indexAt, asIntOf, run_underlying hu, hn.1, hn.2, run_sizeOf_T hT he, Addr.add_mid, Instr.sureAddr, Nat.add_assoc]
        · cases h
      · cases h
    · cases h
  · cases h
theorem lenX_ok {r : Nat → Option X} (hr : Places w F A r) {x : X} {n : Nat} (h : lenX r x = some n) {a : Value} (ha : Rv w F A x a) : (∃ l, x = .s l) ∨ ∃ ad c, a = .slice ad n c := by
  unfold lenX at h
  split at h
  · exact .inl ⟨_, rfl⟩
  · right
    obtain ⟨c, hc, rfl⟩ := Option.map_eq_some_iff.1 h
    unfold elems at hc
    split at hc
    · cases hc
      obtain ⟨ad, c, rfl, _⟩ := sl_of ha
      exact ⟨ad, c, rfl⟩
    · split at hc
      · rename_i hg
        cases hc
        obtain ⟨ra, ad, c, hA, rfl, _⟩ := hw_of ha
        obtain ⟨cs, _, _, hlen, _⟩ := hr.ar hg hA
        exact ⟨ad, c, by rw [hlen]⟩
      · cases hc
    · split at hc
      · rename_i hg
        cases hc
        obtain ⟨ra, ad, c, hA, rfl, h1, h2, h3, _⟩ := hd_of ha
        obtain ⟨cs, _, _, hlen, _⟩ := hr.ar hg hA
        refine ⟨ad, c, ?_⟩
        simp [mid]
        omega
      · cases hc
    · cases hc

def ORel (w : World) (F : Nat → Prop) (A : Nat → Option RA) : Option X → Option Value → Prop
  | none, none => True
  | some x, some v => Rv w F A x v
  | _, _ => False
theorem sliceBound_ok {k : IntKind} {n : Int} {y : Nat} {code : BoundsCode} (h : 0 ≤ n ∧ n ≤ (y : Int)) : (Instr.sliceBound (.int k n) y code).run P w = .ok n.toNat w := by
  simp [Instr.sliceBound, asIntOf, h.1, h.2]
theorem bounds_ok {isS : Bool} {n cap : Nat} (hn : n ≤ cap) {lo hi mx : Option X} {lov hiv mxv : Option Value} (h1 : ORel w F A lo lov) (h2 : ORel w F A hi hiv) (h3 : ORel w F A mx mxv) {a b : Nat} {m : Bool}
    (hb : bounds n lo hi = some (a, b)) (hm : maxOk hi b mx = some m) : a ≤ b ∧ b ≤ n ∧ (Instr.sliceBounds isS n cap lov hiv mxv).run P w = .ok (a, b, if m then b else cap) w := by
  unfold bounds at hb
  split at hb
  · cases hb
  · rename_i h hh
    have hh2 : (hi = none ∧ h = n) ∨ ∃ k z, hi = some (.i k z) ∧ 0 ≤ z ∧ z ≤ (n : Int) ∧ h = z.toNat := by
      split at hh
      · cases hh; exact .inl ⟨rfl, rfl⟩
      · split at hh
        · rename_i hz; cases hh; exact .inr ⟨_, _, rfl, hz.1, hz.2, rfl⟩
        · cases hh
      · cases hh
    have hl2 : (lo = none ∧ a = 0 ∧ b = h) ∨ ∃ k z, lo = some (.i k z) ∧ 0 ≤ z ∧ z ≤ (h : Int) ∧ a = z.toNat ∧ b = h := by
      split at hb
      · cases hb; exact .inl ⟨rfl, rfl, rfl⟩
      · split at hb
        · rename_i hz; cases hb; exact .inr ⟨_, _, rfl, hz.1, hz.2, rfl, rfl⟩
        · cases hb
      · cases hb
    have hm2 : (mx = none ∧ m = false) ∨ ∃ k, mx = some (.i k (b : Int)) ∧ m = true ∧ hi.isSome = true := by
      unfold maxOk at hm
      split at hm
      · cases hm; exact .inl ⟨rfl, rfl⟩
      · split at hm
        · rename_i hz; cases hm; exact .inr ⟨_, by rw [hz.1], rfl, hz.2⟩
        · cases hm
      · cases hm
    have hb' : b = h := by rcases hl2 with ⟨_, _, e⟩ | ⟨_, _, _, _, _, _, e⟩ <;> exact e
    subst hb'
    have hbn : b ≤ n := by rcases hh2 with ⟨_, e⟩ | ⟨_, z, _, _, _, e⟩ <;> omega
    have hab : a ≤ b := by rcases hl2 with ⟨_, e, _⟩ | ⟨_, z, _, _, _, e, _⟩ <;> omega
    refine ⟨hab, hbn, ?_⟩
    have sb : ∀ (k : IntKind) (z : Int) (y : Nat) (code : BoundsCode), 0 ≤ z → z ≤ (y : Int) → (Instr.sliceBound (.int k z) y code).run P w = .ok z.toNat w := fun k z y code u v => sliceBound_ok ⟨u, v⟩
    rcases hm2 with ⟨rfl, rfl⟩ | ⟨k1, rfl, rfl, hs⟩
    · cases mxv with
      | some v => exact h3.elim
      | none =>
        rcases hh2 with ⟨rfl, rfl⟩ | ⟨k2, z2, rfl, hz1, hz2, rfl⟩
        · cases hiv with
          | some v => exact h2.elim
          | none =>
            rcases hl2 with ⟨rfl, rfl, _⟩ | ⟨k3, z3, rfl, hy1, hy2, rfl, _⟩
            · cases lov with
              | some v => exact h1.elim
              | none => simp [Instr.sliceBounds]
            · cases lov with
              | none => exact h1.elim
              | some v =>
                obtain rfl := int_of h1
                simp (disch := omega) [Instr.sliceBounds, sb]
        · cases hiv with
          | none => exact h2.elim
          | some v =>
            obtain rfl := int_of h2
            rcases hl2 with ⟨rfl, rfl, _⟩ | ⟨k3, z3, rfl, hy1, hy2, rfl, _⟩
            · cases lov with
              | some v => exact h1.elim
              | none => simp (disch := omega) [Instr.sliceBounds, sb]
            · cases lov with
              | none => exact h1.elim
              | some v =>
                obtain rfl := int_of h1
                simp (disch := omega) [Instr.sliceBounds, sb]
    · cases mxv with
      | none => exact h3.elim
      | some v =>
        obtain rfl := int_of h3
        rcases hh2 with ⟨rfl, rfl⟩ | ⟨k2, z2, rfl, hz1, hz2, rfl⟩
        · simp at hs
        · cases hiv with
          | none => exact h2.elim
          | some v =>
            obtain rfl := int_of h2
            rcases hl2 with ⟨rfl, rfl, _⟩ | ⟨k3, z3, rfl, hy1, hy2, rfl, _⟩
            · cases lov with
              | some v => exact h1.elim
              | none => (simp (disch := omega) [Instr.sliceBounds, sb]; omega)
            · cases lov with
              | none => exact h1.elim
              | some v =>
                obtain rfl := int_of h1
                simp (disch := omega) [Instr.sliceBounds, sb]
                omega
theorem cutS_ok {t : Nat} (ht : P.underlying t = some .string) {l : List UInt8} {z : X} {lo hi mx : Option X} {lov hiv mxv : Option Value} (h1 : ORel w F A lo lov) (h2 : ORel w F A hi hiv) (h3 : ORel w F A mx mxv)
    (h : cutS l lo hi mx = some z) : ∃ v, (Instr.sliceAt t (.string ⟨l.toArray⟩) lov hiv mxv).run P w = .ok v w ∧ Rv w F A z v := by
  unfold cutS at h
  split at h
  · rename_i a b hb
    cases h
    obtain ⟨hab, hbn, hr⟩ := bounds_ok (P := P) (isS := false) (Nat.le_refl _) h1 h2 (mx := none) (mxv := none) trivial hb (m := false) rfl
    cases mxv with
    | some v => exact h3.elim
    | none =>
      refine ⟨_, ?_, str_ok _⟩
      simp at hr
      have hsz : (⟨l.toArray⟩ : ByteArray).size = l.length := by show l.toArray.size = _; simp
      simp [Instr.sliceAt, Instr.slice, run_underlying ht, hsz, hr]
      apply ByteArray.ext
      simp [ByteArray.data_extract, List.drop_take]
  · cases h
theorem rfE_sub {d : Nat} : ∀ {xs : List X} {cs : List Value} (a b : Nat), RfE w F d xs cs → RfE w F d ((xs.take b).drop a) ((cs.take (b * d)).drop (a * d))
  | [], cs, a, b, h => by simp only [RfE] at h; subst h; simp [RfE]
  | x :: xs, cs, a, 0, h => by simp [RfE]
  | x :: xs, cs, 0, b + 1, h => by
    simp only [RfE] at h
    obtain ⟨c1, c2, rfl, hd, h1, h2⟩ := h
    have ih := rfE_sub 0 b h2
    simp only [List.drop_zero, Nat.zero_mul] at ih
    simp only [List.take_succ_cons, List.drop_zero, Nat.zero_mul, RfE]
    refine ⟨c1, c2.take (b * d), ?_, hd, h1, ih⟩
    rw [List.take_append, List.take_of_length_le (by rw [hd, Nat.add_mul]; omega)]
    congr 2
    rw [hd, Nat.add_mul]; omega
  | x :: xs, cs, a + 1, b + 1, h => by
    simp only [RfE] at h
    obtain ⟨c1, c2, rfl, hd, h1, h2⟩ := h
    have ih := rfE_sub a b h2
    simp only [List.take_succ_cons, List.drop_succ_cons]
    have e : ((c1 ++ c2).take ((b + 1) * d)).drop ((a + 1) * d) = (c2.take (b * d)).drop (a * d) := by
      rw [List.take_append, List.take_of_length_le (by rw [hd, Nat.add_mul]; omega)]
      rw [show (b + 1) * d - c1.length = b * d by rw [hd, Nat.add_mul]; omega]
      rw [List.drop_append, List.drop_eq_nil_of_le (by rw [hd, Nat.add_mul]; omega)]
      rw [show (a + 1) * d - c1.length = a * d by rw [hd, Nat.add_mul]; omega]
      simp
    rw [e]; exact ih
theorem rfE_mid {d : Nat} {xs : List X} {cs : List Value} (lo len : Nat) (h : RfE w F d xs cs) : RfE w F d (mid lo len xs) ((cs.drop (lo * d)).take (len * d)) := by
  have := rfE_sub lo (lo + len) h
  rw [List.drop_take, List.drop_take] at this
  unfold mid
  rwa [show lo + len - lo = len by omega, show (lo + len) * d - lo * d = len * d by rw [Nat.add_mul]; omega] at this
theorem MemAt.sub {b o : Nat} {cs : List Value} (h : MemAt w b o cs) (i j : Nat) : MemAt w b (o + i) ((cs.drop i).take j) := by
  intro q u hu
  rw [List.getElem?_take] at hu
  split at hu
  · rw [List.getElem?_drop] at hu
    have := h _ _ hu
    rwa [show o + (i + q) = o + i + q by omega] at this
  · cases hu
theorem bounds_hi {n a b : Nat} {lo hi : Option X} (h : bounds n lo hi = some (a, b)) (hh : hi.isNone = true) : b = n := by
  cases hi with
  | some _ => simp at hh
  | none =>
    unfold bounds at h
    simp only at h
    split at h
    · cases h; rfl
    · split at h <;> cases h; rfl
    · cases h
theorem bounds_lo {n a b : Nat} {lo hi : Option X} (h : bounds n lo hi = some (a, b)) (hh : lo.isNone = true) : a = 0 := by
  cases lo with
  | some _ => simp at hh
  | none =>
    unfold bounds at h
    simp only at h
    split at h
    · cases h
    · cases h; rfl
theorem cut_ok (hT : TOk P T) {t e : Nat} {ti ei : TI} (ht : T t = some ti) (htd : ti.td = .sl e) (he : T e = some ei) {r : Nat → Option X} (hr : Places w F A r) {x z : X} {a : Value} (ha : Rv w F A x a)
    {lo hi mx : Option X} {lov hiv mxv : Option Value} (h1 : ORel w F A lo lov) (h2 : ORel w F A hi hiv) (h3 : ORel w F A mx mxv)
    (h : cut r ei.size x lo hi mx = some z) : ∃ v, (Instr.sliceAt t a lov hiv mxv).run P w = .ok v w ∧ Rv w F A z v := by
  obtain ⟨_, d, _, hu, _, _, hdesc, _⟩ := desc_ok hT ht
  rw [htd] at hdesc
  simp only [descOk] at hdesc
  subst hdesc
  have run : ∀ (ad : Option Addr) (n cap p q m : Nat), (Instr.sliceBounds true n cap lov hiv mxv).run P w = .ok (p, q, m) w →
      (Instr.sliceAt t (.slice ad n cap) lov hiv mxv).run P w = .ok (.slice (if m = p then ad else ad.map (·.add (p * ei.size))) (q - p) (m - p)) w := by
    intro ad n cap p q m hb
    simp [Instr.sliceAt, Instr.slice, run_underlying hu, hb, run_sizeOf_T hT he]
  unfold cut at h
  split at h
  · rename_i f xs
    obtain ⟨ad, c, rfl, g1, g2, g3⟩ := sl_of ha
    split at h
    · rename_i p q hb
      split at h
      · rename_i m hm
        split at h
        · rename_i hall
          cases h
          obtain ⟨hpq, hqn, hrun⟩ := bounds_ok (P := P) (isS := true) g1 h1 h2 h3 hb hm
          have hl : ((xs.take q).drop p).length = q - p := by simp; omega
          refine ⟨_, run _ _ _ _ _ _ hrun, ?_⟩
          have := sl_ok (w := w) (F := F) (A := A) (f := m || (f && hi.isNone)) (xs := (xs.take q).drop p) (a := if (if m then q else c) = p then ad else ad.map (·.add (p * ei.size))) (c := (if m then q else c) - p)
            (by rw [hl]; cases m <;> simp <;> omega)
            (by
              rw [hl]
              intro hf
              cases m with
              | true => simp
              | false =>
                simp only [Bool.false_or, Bool.and_eq_true, beq_iff_eq] at hf
                have := g2 hf.1
                have := bounds_hi hb hf.2
                simp; omega)
            (by
              by_cases hz : (xs.take q).drop p = []
              · exact .inl hz
              · right
                rcases g3 with rfl | ⟨a0, d, cs', rfl, hs, hF, hrf, hmem⟩
                · simp at hz
                · have hpq' : p < q := by
                    rcases Nat.lt_or_ge p q with h | h
                    · exact h
                    · exact absurd (List.drop_eq_nil_of_le (by simp; omega)) hz
                  have hd : d = ei.size := by
                    cases xs with
                    | nil => simp at hz
                    | cons y ys =>
                      simp only [List.all_cons, Bool.and_eq_true, beq_iff_eq] at hall
                      simp only [RfE] at hrf
                      obtain ⟨c1, c2, rfl, hd, hry, _⟩ := hrf
                      rw [← hall.1, ← rf_len hry, hd]
                  have hne : ¬ ((if m then q else c) = p) := by cases m <;> simp <;> omega
                  refine ⟨⟨a0.block, a0.off + p * ei.size, none⟩, d, _, ?_, rfl, hF, rfE_sub p q hrf, ?_⟩
                  · rw [if_neg hne, spot_eta hs]; simp [Addr.add_mid]
                  · have := MemAt.sub (w := w) (b := a0.block) (o := a0.off) (cs := cs') hmem (p * d) ((q - p) * d)
                    rw [List.drop_take, hd] at *
                    rwa [show q * ei.size - p * ei.size = (q - p) * ei.size by rw [Nat.sub_mul]])
          rw [hl] at this
          exact this
        · cases h
      · cases h
    · cases h
  · rename_i g
    obtain ⟨ra, ad, c, hA, rfl, g1, g2, g3⟩ := hw_of ha
    split at h
    · rename_i d c' hg
      obtain ⟨cs, hrf, hd, hlen, hcap, hown⟩ := hr.ar hg hA
      split at h
      · rename_i p q hb
        split at h
        · rename_i m hm
          rw [← hlen] at hb
          obtain ⟨hpq, hqn, hrun⟩ := bounds_ok (P := P) (isS := true) g1 h1 h2 h3 hb hm
          split at h
          · rename_i hde
            split at h
            · rename_i hh
              cases h
              refine ⟨_, run _ _ _ _ _ _ hrun, ?_⟩
              simp only [Bool.and_eq_true, Bool.not_eq_true'] at hh
              obtain ⟨⟨hl0, hq0⟩, rfl⟩ := hh
              obtain rfl := bounds_lo hb hl0
              obtain rfl := bounds_hi hb hq0
              simp only [Nat.zero_mul, Nat.sub_zero, Bool.false_eq_true, if_false]
              have e : (if c = 0 then ad else ad.map (·.add 0)) = ad := by
                split
                · rfl
                · cases ad <;> simp [Addr.add]
              rw [e]
              exact hw_ok hA g1 g2 g3
            · cases h
              refine ⟨_, run _ _ _ _ _ _ hrun, hd_ok hA (by cases m <;> simp <;> omega) (by cases m <;> simp <;> omega) (by omega) (by intro hm'; subst hm'; simp) ?_⟩
              by_cases hmp : (if m then q else c) = p
              · left; omega
              · right
                rw [if_neg hmp]
                rcases g3 with g3 | rfl
                · exfalso; apply hmp; cases m <;> simp <;> omega
                · simp [Addr.add_mid, hd, hde]
          · cases h
        · cases h
      · cases h
    · cases h
  · rename_i g l0 n f
    obtain ⟨ra, ad, c, hA, rfl, g1, g2, g4, g5, g3⟩ := hd_of ha
    split at h
    · rename_i d c' hg
      obtain ⟨cs, hrf, hd, hlen, hcap, hown⟩ := hr.ar hg hA
      split at h
      · rename_i p q hb
        split at h
        · rename_i m hm
          obtain ⟨hpq, hqn, hrun⟩ := bounds_ok (P := P) (isS := true) g1 h1 h2 h3 hb hm
          split at h
          · rename_i hde
            cases h
            refine ⟨_, run _ _ _ _ _ _ hrun, hd_ok hA (by cases m <;> simp <;> omega) (by cases m <;> simp <;> omega) (by omega) ?_ ?_⟩
            · intro hf
              cases m with
              | true => simp
              | false =>
                simp only [Bool.false_or, Bool.and_eq_true, beq_iff_eq] at hf
                have := g5 hf.1
                have := bounds_hi hb hf.2
                simp; omega
            · by_cases hmp : (if m then q else c) = p
              · left; omega
              · right
                rw [if_neg hmp]
                rcases g3 with g3 | rfl
                · exfalso; apply hmp; cases m <;> simp <;> omega
                · simp [Addr.add_mid, hd, hde, Nat.add_mul, Nat.add_assoc]
          · cases h
        · cases h
      · cases h
    · cases h
  · cases h
end
end Go.EV
