/- Parts of values, values made of parts, conversions. -/
import Derived.Test.YtfadalgikdffeaaGreatEv6
import Derived.Great.BuildSlice
import Derived.Laws.StructEq
set_option linter.unusedVariables false
set_option linter.unusedSimpArgs false
namespace Go.EV
open Go.RowKit
section
variable {P : Program} {T : TT} {w : World} {F : Nat → Prop} {A : Nat → Option RA}
theorem val_agg {x : X} {cs : List Value} (h : x.agg = true) : val x cs = .agg cs.toArray := by simp [val, h]
theorem run_part (hT : TOk P T) {t : Nat} {ti : TI} (ht : T t = some ti) {x : X} {c1 c2 c3 : List Value} (hf : fits ti x = true) (hr : Rc w F A x c2) :
    (part t (c1 ++ (c2 ++ c3)).toArray c1.length).run P w = .ok (val x c2) w := by
  obtain ⟨i, d, hi, hu, hs, _, _, hrow⟩ := desc_ok hT ht
  simp only [fits, Bool.and_eq_true, beq_iff_eq] at hf
  obtain ⟨⟨hsz, hag⟩, _⟩ := hf
  have hl := rc_len hr
  cases hx : x.agg with
  | true =>
    have e : (c1 ++ (c2 ++ c3)).toArray.extract c1.length (c1.length + ti.size) = c2.toArray := by
      apply Array.ext'
      simp [← hsz, ← hl]
    simp [part, run_isAgg hu, hrow, ← hag, hx, run_sizeOf_T hT ht, e, val]
    simpa using e
  | false =>
    have h2 : x.size = 1 := by cases x <;> simp_all [X.agg, X.size]
    rw [h2] at hl
    match c2, hl with
    | [u], _ => simp [part, run_isAgg hu, hrow, ← hag, hx, val]
theorem offs_next {fs0 fs : List Nat} {j f : Nat} {fi : TI} (h : fs0.drop j = f :: fs) (hf : T f = some fi) : offs T fs0 (j + 1) = offs T fs0 j + fi.size ∧ fs0.drop (j + 1) = fs := by
  have hj : fs0[j]? = some f := by
    have := congrArg (fun l => l[0]?) h
    simpa using this
  have h2 : fs0.drop (j + 1) = fs := by
    have := congrArg List.tail h
    simpa [List.tail_drop] using this
  refine ⟨?_, h2⟩
  unfold offs
  rw [List.take_add_one, hj]
  simp [hf]
theorem r1_part (hT : TOk P T) {f : Nat} {fi : TI} (hf : T f = some fi) {x : X} {c1 c2 c3 : List Value} (hx : fits fi x = true) (hr : Rc w F A x c2) : (part f (c1 ++ (c2 ++ c3)).toArray c1.length).run P w = .ok (val x c2) w ∧ R1 w F A x (val x c2) :=
  ⟨run_part hT hf hx hr, c2, hr, rfl⟩
mutual
theorem eqT_ok (hT : TOk P T) : ∀ (n t : Nat) {x y : X} {r : Bool}, eqT T n t x y = some r → ∀ (d : Nat), n ≤ d → ∀ {a b : Value}, R1 w F A x a → R1 w F A y b → (Op.equalIn d t a b).run P w = .ok r w
  | 0, t, x, y, r, h, d, hd, a, b, ha, hb => by simp [eqT] at h
  | n + 1, t, x, y, r, h, 0, hd, a, b, ha, hb => by omega
  | n + 1, t, x, y, r, h, d + 1, hd, a, b, ha, hb => by
    simp only [eqT] at h
    split at h
    · rename_i ht
      obtain ⟨i, dd, _, hu, _, _, hdesc, _⟩ := desc_ok hT ht
      simp only [descOk] at hdesc
      subst hdesc
      split at h
      · cases h
        obtain rfl := bool_of ha.rv
        obtain rfl := bool_of hb.rv
        exact run_equalIn_bool w d t _ _ hu
      · cases h
    · rename_i ht
      obtain ⟨i, dd, _, hu, _, _, hdesc, _⟩ := desc_ok hT ht
      simp only [descOk] at hdesc
      subst hdesc
      split at h
      · split at h
        · rename_i hk
          obtain ⟨rfl, rfl⟩ := hk
          cases h
          obtain rfl := int_of ha.rv
          obtain rfl := int_of hb.rv
          exact run_equalIn_int w d t _ _ _ _ hu
        · cases h
      · cases h
    · rename_i ht
      obtain ⟨i, dd, _, hu, _, _, hdesc, _⟩ := desc_ok hT ht
      simp only [descOk] at hdesc
      subst hdesc
      split at h
      · rename_i p q
        cases h
        obtain rfl := str_of ha.rv
        obtain rfl := str_of hb.rv
        rw [run_equalIn_string w d t _ _ hu, ByteArray.toList_eq, ByteArray.toList_eq]
      · cases h
    · rename_i fs _ _ _ ht
      obtain ⟨i, dd, _, hu, _, _, hdesc, _⟩ := desc_ok hT ht
      simp only [descOk] at hdesc
      obtain ⟨fields, rfl, htys, hoff⟩ := hdesc
      split at h
      · rename_i xs ys
        split at h
        · rename_i hl
          obtain ⟨ca, ha1, rfl⟩ := ha
          obtain ⟨cb, hb1, rfl⟩ := hb
          simp only [Rc] at ha1 hb1
          have hfo : P.fieldsOf t = fields := by simp [Program.fieldsOf, hu]
          obtain ⟨hnm, hst, _⟩ := (hT t _ ht).eqs hl.2.2 fields hu
          have hva : val (.ag xs) ca = .agg ca.toArray := by simp [val, X.agg]
          have hvb : val (.ag ys) cb = .agg cb.toArray := by simp [val, X.agg]
          rw [hva, hvb, run_equalIn_struct w d t _ _ (by rw [hfo]; exact hu) hst, hfo]
          refine eqTL_ok hT n fs h d (by omega) (fs0 := fs) (j := 0) (fields := fields.toList) (ca0 := []) (cb0 := []) (by simp) htys hnm (fun k f hf => ?_) (by simp [offs]) (by simp [offs]) ha1 hb1
          have := hoff k f (by simpa using hf)
          simpa using this.1
        · cases h
      · cases h
    · cases h
theorem eqTL_ok (hT : TOk P T) : ∀ (n : Nat) (fs : List Nat) {xs ys : List X} {r : Bool}, eqTL T n fs xs ys = some r → ∀ (d : Nat), n ≤ d → ∀ {fs0 : List Nat} {j : Nat} {fields : List Field} {ca0 cb0 ca cb : List Value}, fs0.drop j = fs → fields.map (·.type) = fs → (∀ f ∈ fields, f.name ≠ "_") → (∀ (k : Nat) f, fields[k]? = some f → f.offset = offs T fs0 (j + k)) → (ca0.length = offs T fs0 j) → (cb0.length = offs T fs0 j) →
    RcL w F A xs ca → RcL w F A ys cb → (Op.eqFields d (ca0 ++ ca).toArray (cb0 ++ cb).toArray fields).run P w = .ok r w
  | 0, fs, xs, ys, r, h, d, hd, fs0, j, fields, ca0, cb0, ca, cb, hdr, hty, hnm, hoff, h1, h2, ha, hb => by cases fs <;> simp [eqTL] at h
  | n + 1, [], xs, ys, r, h, d, hd, fs0, j, fields, ca0, cb0, ca, cb, hdr, hty, hnm, hoff, h1, h2, ha, hb => by
    simp only [eqTL, Option.some.injEq] at h
    subst h
    have : fields = [] := by simpa using hty
    subst this
    simp [Op.eqFields]
  | n + 1, f :: fs, xs, ys, r, h, d, hd, fs0, j, fields, ca0, cb0, ca, cb, hdr, hty, hnm, hoff, h1, h2, ha, hb => by
    simp only [eqTL] at h
    split at h
    · rename_i x xs y ys
      split at h
      · rename_i fi hf
        split at h
        · rename_i hfit
          split at h
          · rename_i r1 hr1
            split at h
            · rename_i r2 hr2
              cases h
              match fields, hty with
              | g :: gs, hty =>
                simp only [List.map_cons, List.cons.injEq] at hty
                obtain ⟨rfl, hty2⟩ := hty
                simp only [RcL] at ha hb
                obtain ⟨a1, a2, rfl, ha1, ha2⟩ := ha
                obtain ⟨b1, b2, rfl, hb1, hb2⟩ := hb
                have ho := hoff 0 g rfl
                simp only [Nat.add_zero] at ho
                have p1 := (r1_part hT hf (c1 := ca0) (c2 := a1) (c3 := a2) hfit.1 ha1)
                have p2 := (r1_part hT hf (c1 := cb0) (c2 := b1) (c3 := b2) hfit.2 hb1)
                have e1 := eqT_ok hT n g.type hr1 d (by omega) p1.2 p2.2
                have q1 : (part g.type (ca0 ++ (a1 ++ a2)).toArray g.offset).run P w = .ok (val x a1) w := by rw [ho, ← h1]; exact p1.1
                have q2 : (part g.type (cb0 ++ (b1 ++ b2)).toArray g.offset).run P w = .ok (val y b1) w := by rw [ho, ← h2]; exact p2.1
                have hn := hnm g (by simp)
                have ih := eqTL_ok hT n fs hr2 d (by omega) (fs0 := fs0) (j := j + 1) (fields := gs) (ca0 := ca0 ++ a1) (cb0 := cb0 ++ b1) (offs_next hdr hf).2 hty2 (fun f hf => hnm f (by simp [hf])) (fun k f hk => by
                  have := hoff (k + 1) f (by simpa using hk)
                  rw [this]; congr 1; omega) (by
                  have hs1 := rc_len ha1
                  have hsz : x.size = fi.size := by have := hfit.1; simp only [fits, Bool.and_eq_true, beq_iff_eq] at this; exact this.1.1
                  rw [(offs_next hdr hf).1, List.length_append, h1, hs1, hsz]) (by
                  have hs1 := rc_len hb1
                  have hsz : y.size = fi.size := by have := hfit.2; simp only [fits, Bool.and_eq_true, beq_iff_eq] at this; exact this.1.1
                  rw [(offs_next hdr hf).1, List.length_append, h2, hs1, hsz]) ha2 hb2
                simp only [Op.eqFields]
                rw [if_pos hn]
                simp only [Sem.run_bind, q1, q2, Result.andThen_ok, e1]
                simp only [List.append_assoc] at ih
                cases r1
                · simp
                · simp only [Bool.not_true, Bool.false_eq_true, if_false, Bool.true_and]; exact ih
            · cases h
          · cases h
        · cases h
      · cases h
    · cases h
end
theorem binvS_ok (hT : TOk P T) {op : BinOp} {t : TypeId} {x y z : X} (h : binvS T op t x y = some z) {a b : Value} (ha : Rv w F A x a) (hb : Rv w F A y b) (xo yo : Operand) :
    ∃ v, ((do eqGuard op t xo yo a b; binOp op t a b) : Sem Value).run P w = .ok v w ∧ Rv w F A z v := by
  unfold binvS at h
  split at h
  · rename_i xs
    split at h
    · rename_i r hr
      have hr0 := hr
      unfold eqT at hr0
      split at hr0 <;> (try (split at hr0 <;> simp_all; done)) <;> (try (cases hr0; done))
      rename_i fs _ _ _ ht
      split at hr0
      · rename_i xs' ys hx
        cases hx
        obtain ⟨i, dd, _, hu, _, _, hdesc, _⟩ := desc_ok hT ht
        simp only [descOk] at hdesc
        obtain ⟨fields, rfl, _⟩ := hdesc
        have hl : cmpOk T 30 t = true := by
          split at hr0
          · rename_i hl; exact hl.2.2
          · cases hr0
        obtain ⟨_, _, hg⟩ := (hT t _ ht).eqs hl fields hu
        have ha1 := Rv.one ha rfl rfl
        have hb1 := Rv.one hb rfl rfl
        have he := eqT_ok hT 30 t hr 10000 (by omega) ha1 hb1
        obtain ⟨ca, _, rfl⟩ := ha1
        obtain ⟨cb, _, rfl⟩ := hb1
        have hva : val (.ag xs) ca = .agg ca.toArray := by simp [val, X.agg]
        have hvb : val (.ag ys) cb = .agg cb.toArray := by simp [val, X.agg]
        rw [hva, hvb] at he ⊢
        have h1 := run_eqGuard_agg (P := P) w op t xo yo ca.toArray cb.toArray hg
        split at h
        · cases h
          refine ⟨_, ?_, bool_ok _⟩
          simp only [Sem.run_bind, h1, Result.andThen_ok, run_eql_struct, he]
        · cases h
          refine ⟨_, ?_, bool_ok _⟩
          simp only [Sem.run_bind, h1, Result.andThen_ok, run_neq_struct, he]
        · cases h
      · cases hr0
    · cases h
  · exact binv_ok hT h ha hb xo yo
theorem ag_of {xs : List X} {v : Value} (h : Rv w F A (.ag xs) v) : ∃ cs, v = .agg cs.toArray ∧ RcL w F A xs cs := by
  obtain ⟨cs, h1, rfl⟩ := Rv.one h rfl rfl
  exact ⟨cs, rfl, by simpa only [Rc] using h1⟩
theorem ar_of {d : Nat} {xs : List X} {v : Value} (h : Rv w F A (.ar d xs) v) : ∃ cs, v = .agg cs.toArray ∧ RfE w F d xs cs := by
  obtain ⟨cs, h1, rfl⟩ := Rv.one h rfl rfl
  exact ⟨cs, rfl, by simpa only [Rc, Rf] using h1⟩
theorem ag_ok {xs : List X} {cs : List Value} (h : RcL w F A xs cs) : Rv w F A (.ag xs) (.agg cs.toArray) := R1.rv ⟨cs, by simpa only [Rc] using h, rfl⟩
theorem ar_ok {d : Nat} {xs : List X} {cs : List Value} (h : RfE w F d xs cs) : Rv w F A (.ar d xs) (.agg cs.toArray) := R1.rv ⟨cs, by simpa only [Rc, Rf] using h, rfl⟩
theorem fldV_ok (hT : TOk P T) {t f : Nat} {x z : X} (h : fldV T t f x = some z) {a : Value} (ha : Rv w F A x a) : ∃ v, (Instr.field t a f).run P w = .ok v w ∧ Rv w F A z v := by
  unfold fldV at h
  split at h
  · rename_i xs fs _ _ _ ht
    obtain ⟨cs, rfl, hrc⟩ := ag_of ha
    split at h
    · rename_i y fi hy hfi
      split at h
      · rename_i hh
        cases h
        obtain ⟨ft, hft, hTf⟩ := Option.bind_eq_some_iff.1 hfi
        obtain ⟨fields, fld, fi', hu, hfl, ho, hfs, hfi2, hne⟩ := st_ok hT ht rfl (List.getElem?_eq_some_iff.1 hft).1
        rw [hft] at hfs; cases hfs
        rw [hTf] at hfi2; cases hfi2
        obtain ⟨c1, c2, c3, rfl, hl, hry, _⟩ := rcL_split hrc hy
        have := run_part (P := P) (c1 := c1) (c3 := c3) hT hTf hh.1 hry
        rw [hl, hh.2, ← ho] at this
        exact ⟨_, by simp only [Instr.field, Sem.run_bind, run_underlying hu, Result.andThen_ok, hfl, asAgg, Sem.run_pure, this], R1.rv ⟨c2, hry, rfl⟩⟩
      · cases h
    · cases h
  · cases h
theorem idxV_ok (hT : TOk P T) {t : Nat} {k : IntKind} {n : Int} {x z : X} (h : idxV T t x n = some z) {a : Value} (ha : Rv w F A x a) : ∃ v, (Instr.index t a (.int k n)).run P w = .ok v w ∧ Rv w F A z v := by
  unfold idxV at h
  split at h
  · rename_i l
    obtain rfl := str_of ha
    split at h
    · rename_i hh
      obtain ⟨c, hc, rfl⟩ := Option.map_eq_some_iff.1 h
      obtain ⟨ti, h1, h2⟩ := td_ok hT hh.1
      obtain ⟨i, d, _, hu, _, _, hdesc, _⟩ := desc_ok hT h1
      rw [h2] at hdesc
      simp only [descOk] at hdesc
      subst hdesc
      refine ⟨_, ?_, int_ok _ _⟩
      have e : (⟨l.toArray⟩ : ByteArray)[n.toNat]? = some c := by
        obtain ⟨hlt, rfl⟩ := List.getElem?_eq_some_iff.1 hc
        rw [getElem?_pos _ _ (by show n.toNat < l.toArray.size; simpa using hlt)]
        rfl
      simp [Instr.index, asIntOf, run_underlying hu, hh.2, e]
    · cases h
  · rename_i d xs
    obtain ⟨cs, rfl, hrf⟩ := ar_of ha
    split at h
    · rename_i m e _ _ _ ht
      split at h
      · rename_i ei he
        split at h
        · rename_i hn
          split at h
          · rename_i y hy
            split at h
            · rename_i hf
              cases h
              obtain ⟨i, d', _, hu, _, _, hdesc, _⟩ := desc_ok hT ht
              simp only [descOk] at hdesc
              subst hdesc
              obtain ⟨c1, c2, c3, rfl, hl, hd, hry, _⟩ := rfE_split hrf hy
              have := run_part (P := P) (A := A) (c1 := c1) (c3 := c3) hT he hf (rf_rc hry)
              rw [hl, hn.2.2] at this
              refine ⟨_, ?_, R1.rv ⟨c2, rf_rc hry, rfl⟩⟩
              simp only [Instr.index, asIntOf, Sem.run_bind, Sem.run_pure, Result.andThen_ok, run_underlying hu, Sem.run_ite, hn.1, hn.2.1, and_self, if_true, run_sizeOf_T hT he, this]
            · cases h
          · cases h
        · cases h
      · cases h
    · cases h
  · cases h
theorem tup_of {xs : List X} {v : Value} (h : Rv w F A (.tup xs) v) : ∃ vs, v = .tuple vs.toArray ∧ RvL w F A xs vs := h
theorem extract_ok {xs : List X} {j : Nat} {z : X} (h : xs[j]? = some z) {a : Value} (ha : Rv w F A (.tup xs) a) : ∃ v, (Instr.extract a j).run P w = .ok v w ∧ Rv w F A z v := by
  obtain ⟨vs, rfl, hr⟩ := tup_of ha
  have key : ∀ (xs : List X) (vs : List Value) (j : Nat), xs[j]? = some z → RvL w F A xs vs → ∃ v, vs[j]? = some v ∧ Rv w F A z v := by
    intro xs
    induction xs with
    | nil => intro vs j h; simp at h
    | cons x xs ih =>
      intro vs j h hr
      cases vs with
      | nil => simp [RvL] at hr
      | cons v vs =>
        simp only [RvL] at hr
        cases j with
        | zero =>
          simp at h; subst h
          refine ⟨v, by simp, ?_⟩
          rcases hr.1 with rfl | h1
          · trivial
          · exact h1.rv
        | succ j => simpa using ih vs j (by simpa using h) hr.2
  obtain ⟨v, h1, h2⟩ := key xs vs j h hr
  exact ⟨v, by simp [Instr.extract, h1], h2⟩
/-! ### build -/
theorem foldl_set (cs : Array Value) (off : Nat) : ∀ (v : List Value) (k : Nat), off + k + v.length ≤ cs.size → (v.zipIdx k).foldl (fun cs p => cs.setIfInBounds (off + p.2) p.1) cs =
    (cs.toList.take (off + k) ++ (v ++ cs.toList.drop (off + k + v.length))).toArray
  | [], k, h => by simp
  | u :: v, k, h => by
    simp only [List.zipIdx_cons, List.foldl_cons]
    simp only [List.length_cons] at h
    rw [foldl_set (cs.setIfInBounds (off + k) u) off v (k + 1) (by simp; omega)]
    congr 1
    simp only [Array.toList_setIfInBounds]
    rw [show off + (k + 1) = off + k + 1 by omega]
    rw [List.take_succ_eq_append_getElem (by simp; omega)]
    rw [List.getElem_set_self]
    rw [List.take_set_of_le (by omega)]
    rw [List.drop_set_of_lt (by omega)]
    rw [show off + k + 1 + v.length = off + k + (v.length + 1) by omega]
    simp [List.append_assoc]
theorem foldl_fill (c1 c2 c3 v : List Value) (h : v.length = c2.length) : (v.toArray.zipIdx.foldl (fun cs p => cs.setIfInBounds (c1.length + p.2) p.1) (c1 ++ (c2 ++ c3)).toArray) = (c1 ++ (v ++ c3)).toArray := by
  have e := foldl_set (c1 ++ (c2 ++ c3)).toArray c1.length v 0 (by simp; omega)
  have z : v.toArray.zipIdx.toList = v.zipIdx 0 := by simp
  rw [← Array.foldl_toList, z, e]
  simp [h]

def PRel (w : World) (F : Nat → Prop) (A : Nat → Option RA) : List (Nat × X) → List (Nat × Value) → Prop
  | [], vs => vs = []
  | p :: ps, q :: qs => p.1 = q.1 ∧ Rv w F A p.2 q.2 ∧ PRel w F A ps qs
  | _ :: _, [] => False
theorem sizeL_take_set : ∀ {xs : List X} {j : Nat} {v old : X} (i : Nat), xs[j]? = some old → v.size = old.size → sizeL ((xs.set j v).take i) = sizeL (xs.take i)
  | [], j, v, old, i, h, hs => by simp at h
  | x :: xs, 0, v, old, i, h, hs => by
    simp at h; subst h
    cases i <;> simp [sizeL, hs]
  | x :: xs, j + 1, v, old, i, h, hs => by
    cases i with
    | zero => simp
    | succ i => simp [sizeL, sizeL_take_set i (by simpa using h) hs]
theorem fill_ag (place : Nat → Option (Nat × Nat)) : ∀ {ps : List (Nat × X)} {qs : List (Nat × Value)} {zs ys : List X} {cs : List Value}, RcL w F A zs cs → (∀ j y, zs[j]? = some y → place j = some (sizeL (zs.take j), y.size)) → PRel w F A ps qs → fillX zs ps = some ys →
    ∃ cs', Instr.fill place cs.toArray qs = some cs'.toArray ∧ RcL w F A ys cs'
  | [], qs, zs, ys, cs, hr, hp, hrel, h => by
    simp only [PRel] at hrel
    subst hrel
    simp only [fillX, Option.some.injEq] at h
    subst h
    exact ⟨cs, rfl, hr⟩
  | (j, v) :: ps, qs, zs, ys, cs, hr, hp, hrel, h => by
    cases qs with
    | nil => simp [PRel] at hrel
    | cons q qs =>
      obtain ⟨j', u⟩ := q
      simp only [PRel] at hrel
      obtain ⟨rfl, hv, hrel⟩ := hrel
      simp only [fillX] at h
      split at h
      · rename_i old hold
        split at h
        · rename_i hh
          obtain ⟨hsz, hb, ht⟩ := hh
          have hc := (Rv.one hv hb ht).cells
          have hlen := rc_len hc
          obtain ⟨c1, c2, c3, rfl, hl, hry, hset⟩ := rcL_split hr hold
          have hl2 := rc_len hry
          have hpl := hp j old hold
          have hnew := hset v _ hc
          obtain ⟨cs', hf, hr'⟩ := fill_ag place hnew (fun i y hy => by
            by_cases hij : i = j
            · subst hij
              rw [List.getElem?_set_self (List.getElem?_eq_some_iff.1 hold).1] at hy
              cases hy
              rw [hpl, sizeL_take_set i hold hsz, hsz]
            · rw [List.getElem?_set_ne (Ne.symm hij)] at hy
              rw [hp i y hy, sizeL_take_set i hold hsz]) hrel h
          refine ⟨cs', ?_, hr'⟩
          simp only [Instr.fill, hpl]
          have e1 : ¬ (u.cells.size ≠ old.size ∨ sizeL (zs.take j) + u.cells.size > (c1 ++ (c2 ++ c3)).toArray.size) := by
            have : u.cells.size = v.size := by rw [← hlen]; simp
            simp; omega
          have e2 : (decide (u.cells.size ≠ old.size) || decide (sizeL (zs.take j) + u.cells.size > (c1 ++ (c2 ++ c3)).toArray.size)) = false := by
            simp only [not_or] at e1
            simp only [Bool.or_eq_false_iff, decide_eq_false_iff_not]
            exact e1
          rw [e2]
          simp only [Bool.false_eq_true, if_false]
          have e3 := foldl_fill c1 c2 c3 u.cells.toList (by rw [hlen, hl2, hsz])
          rw [← hl]
          simp only [Array.toArray_toList] at e3
          rw [e3]
          exact hf
        · cases h
      · cases h
theorem fill_ar (d : Nat) : ∀ {ps : List (Nat × X)} {qs : List (Nat × Value)} {zs ys : List X} {cs : List Value}, RfE w F d zs cs → (∀ p ∈ ps, p.2.fz = true) → PRel w F A ps qs → fillX zs ps = some ys →
    ∃ cs', Instr.fill (fun i => some (i * d, d)) cs.toArray qs = some cs'.toArray ∧ RfE w F d ys cs'
  | [], qs, zs, ys, cs, hr, hp, hrel, h => by
    simp only [PRel] at hrel
    subst hrel
    simp only [fillX, Option.some.injEq] at h
    subst h
    exact ⟨cs, rfl, hr⟩
  | (j, v) :: ps, qs, zs, ys, cs, hr, hp, hrel, h => by
    cases qs with
    | nil => simp [PRel] at hrel
    | cons q qs =>
      obtain ⟨j', u⟩ := q
      simp only [PRel] at hrel
      obtain ⟨rfl, hv, hrel⟩ := hrel
      simp only [fillX] at h
      split at h
      · rename_i old hold
        split at h
        · rename_i hh
          obtain ⟨hsz, hb, ht⟩ := hh
          have hc := rc_rf (hp (j, v) (by simp)) (Rv.one hv hb ht).cells
          have hlen := rf_len hc
          obtain ⟨c1, c2, c3, rfl, hl, hd, hry, hset⟩ := rfE_split hr hold
          have hl2 := rf_len hry
          have hnew := hset v _ (by rw [hlen, hsz, ← hl2, hd]) hc
          obtain ⟨cs', hf, hr'⟩ := fill_ar d hnew (fun p hp' => hp p (by simp [hp'])) hrel h
          refine ⟨cs', ?_, hr'⟩
          simp only [Instr.fill]
          have e2 : (decide (u.cells.size ≠ d) || decide (j * d + u.cells.size > (c1 ++ (c2 ++ c3)).toArray.size)) = false := by
            have : u.cells.size = v.size := by rw [← hlen]; simp
            simp only [Bool.or_eq_false_iff, decide_eq_false_iff_not]
            simp; omega
          rw [e2]
          simp only [Bool.false_eq_true, if_false]
          have e3 := foldl_fill c1 c2 c3 u.cells.toList (by rw [hlen, hl2, hsz])
          rw [← hl]
          simp only [Array.toArray_toList] at e3
          rw [e3]
          exact hf
        · cases h
      · cases h
theorem places_of (hT : TOk P T) : ∀ {fields : List Field} {fs : List Nat} (k : Nat), fields.map (·.type) = fs → (∀ (j : Nat) (f : Field), fields[j]? = some f → ∃ fi, T f.type = some fi) →
    fields.mapM (fun f => (P.info? f.type).map fun i => (f.offset, i.size)) = some (fields.map fun f => (f.offset, ((T f.type).map (·.size)).getD 0))
  | [], fs, k, h, hall => by simp
  | f :: fields, fs, k, h, hall => by
    obtain ⟨fi, hfi⟩ := hall 0 f rfl
    obtain ⟨i, d, hi, _, hs, _⟩ := desc_ok hT hfi
    have ih := places_of (fs := fields.map (·.type)) hT k rfl (fun j g hg => hall (j + 1) g (by simpa using hg))
    simp [List.mapM_cons, hi, ih, hs, hfi]
theorem sizeL_offs {zs : List X} {fs : List Nat} (hz : ∀ j : Nat, (zs[j]?).map X.size = ((fs[j]?).map fun t => ((T t).map (·.size)).getD 0)) : ∀ j, sizeL (zs.take j) = offs T fs j := by
  induction zs generalizing fs with
  | nil =>
    intro j
    have : fs = [] := by
      cases fs with
      | nil => rfl
      | cons t fs => simpa using hz 0
    subst this
    simp [sizeL, offs]
  | cons x zs ih =>
    intro j
    cases fs with
    | nil => simpa using hz 0
    | cons t fs =>
      cases j with
      | zero => simp [sizeL, offs]
      | succ j =>
        have h0 := hz 0
        simp at h0
        have := ih (fs := fs) (fun j => by simpa using hz (j + 1)) j
        simp [sizeL, offs] at this ⊢
        omega
end
end Go.EV
