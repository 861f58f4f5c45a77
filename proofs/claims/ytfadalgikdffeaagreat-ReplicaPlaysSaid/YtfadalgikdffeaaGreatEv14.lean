/- Stores and appends. -/
import Derived.Test.YtfadalgikdffeaaGreatEv13
set_option linter.unusedVariables false
set_option linter.unusedSimpArgs false
namespace Go.EV
open Go.RowKit
def spliced (all : Array Value) (o : Nat) (vs : List Value) : Array Value := (all.toList.take o ++ (vs ++ all.toList.drop (o + vs.length))).toArray
theorem setCells_heap (b : Nat) : ∀ (vs : List Value) (o : Nat) (w : World) {all : Array Value} {e : TypeId} {fz : Nat × Nat}, w.heap[b]? = some (.cells all e fz) → o + vs.length ≤ all.size →
    (w.setCells b o vs).heap[b]? = some (.cells (spliced all o vs) e fz) ∧ (∀ k, k ≠ b → (w.setCells b o vs).heap[k]? = w.heap[k]?) ∧ (w.setCells b o vs).heap.size = w.heap.size ∧ (w.setCells b o vs).os = w.os ∧ (w.setCells b o vs).tape = w.tape ∧ (w.setCells b o vs).output = w.output
  | [], o, w, all, e, fz, h, hs => by
    refine ⟨?_, fun k _ => rfl, rfl, rfl, rfl, rfl⟩
    have : spliced all o [] = all := by apply Array.ext'; simp [spliced]
    rw [this]; exact h
  | v :: vs, o, w, all, e, fz, h, hs => by
    simp only [List.length_cons] at hs
    have h1 : (w.setCell ⟨b, o, none⟩ v).heap[b]? = some (.cells (all.setIfInBounds o v) e fz) := by
      have hlt := (Array.getElem?_eq_some_iff.1 h).1
      simp [World.setCell, Array.getElem?_modify, h]
    obtain ⟨g1, g2, g3, g4, g5, g6⟩ := setCells_heap b vs (o + 1) (w.setCell ⟨b, o, none⟩ v) h1 (by simp; omega)
    simp only [World.setCells]
    refine ⟨?_, fun k hk => ?_, ?_, g4, g5, g6⟩
    · rw [g1]
      congr 2
      apply Array.ext'
      simp only [spliced, Array.toList_setIfInBounds]
      rw [List.take_succ_eq_append_getElem (by simp; omega), List.getElem_set_self, List.take_set_of_le (by omega), List.drop_set_of_lt (by omega)]
      rw [show o + 1 + vs.length = o + (v :: vs).length by simp; omega]
      simp [List.append_assoc]
    · rw [g2 k hk]
      exact Below.heap_setCell w ⟨b, o, none⟩ v k hk
    · rw [g3]; simp [World.setCell]
theorem spliced_size {all : Array Value} {o : Nat} {vs : List Value} (h : o + vs.length ≤ all.size) : (spliced all o vs).size = all.size := by simp [spliced]; omega
theorem spliced_in {all : Array Value} {o j : Nat} {vs : List Value} (h : o + vs.length ≤ all.size) (hj : j < vs.length) : (spliced all o vs)[o + j]? = vs[j]? := by
  have h1 : (all.toList.take o).length = o := by simp; omega
  simp only [spliced, List.getElem?_toArray]
  rw [List.getElem?_append_right (by omega), h1, show o + j - o = j by omega, List.getElem?_append_left hj]
theorem spliced_out {all : Array Value} {o j : Nat} {vs : List Value} (h : o + vs.length ≤ all.size) (hj : j < o ∨ o + vs.length ≤ j) : (spliced all o vs)[j]? = all[j]? := by
  have h1 : (all.toList.take o).length = o := by simp; omega
  simp only [spliced, List.getElem?_toArray]
  rcases hj with hj | hj
  · rw [List.getElem?_append_left (by omega), List.getElem?_take_of_lt hj]; simp
  · rw [List.getElem?_append_right (by omega), h1, List.getElem?_append_right (by omega), List.getElem?_drop]
    rw [show o + vs.length + (j - o - vs.length) = j by omega]; simp
section
variable {P : Program} {T : TT} {w0 : World} {F0 F : Nat → Prop} {Pb : PB} {A : Nat → Option RA} {S : St} {tm : Nat → Value} {w : World}
theorem setCells_shape {b o : Nat} {vs : List Value} {w : World} {all : Array Value} {e : TypeId} {fz : Nat × Nat} (h : w.heap[b]? = some (.cells all e fz)) (hs : o + vs.length ≤ all.size) : Shape w (w.setCells b o vs) := by
  obtain ⟨g1, g2, _⟩ := setCells_heap b vs o w h hs
  intro k all' e' fz' hk
  by_cases hkb : k = b
  · subst hkb
    rw [h] at hk
    cases hk
    exact ⟨_, g1, spliced_size hs⟩
  · exact ⟨all', (g2 k hkb).trans hk, rfl⟩
/-- A block turns of which the state says nothing. -/
theorem Inv.touch (h : Inv w0 F0 Pb F A S tm w) {w' : World} {b : Nat} (hk : ∀ k, k ≠ b → w'.heap[k]? = w.heap[k]?) (hs : w.heap.size ≤ w'.heap.size) (ho : w'.os = w.os) (ht : w'.tape = w.tape) (hout : w'.output = w.output)
    (hF : ¬ F b) (hb : b < w0.heap.size → Pb b) (hA : ∀ g ra, A g = some ra → 0 < ra.cap → ra.b ≠ b) (hsh : Shape w w') : Inv w0 F0 Pb F A S tm w' := by
  have kp : Keeps F w w' := fun k hk' => hk k (fun e => hF (e ▸ hk'))
  refine ⟨ho.trans h.os, ht.trans h.tape, hout.trans h.output, Nat.le_trans h.size hs, fun k h1 h2 => ?_, fun k hk' => ⟨Nat.lt_of_lt_of_le (h.fo k hk').1 hs, (h.fo k hk').2⟩, fun v => (h.tv v).mono (fun _ h => h) kp (ASub.refl A), fun g x hx => ?_, h.lv, h.sep, fun g ra hg hc => ⟨Nat.lt_of_lt_of_le (h.nw g ra hg hc).1 hs, (h.nw g ra hg hc).2⟩, h.pin, h.shape.trans hsh⟩
  · rw [hk k (fun e => h2 (hb (e ▸ h1) |> fun p => e ▸ p))]; exact h.keep k h1 h2
  · obtain ⟨ra, c, h1, h2⟩ := h.rv g x hx
    exact ⟨ra, c, h1, h2.mono (fun _ h => h) kp (ASub.refl A) (fun hc => hk _ (hA g ra h1 hc))⟩
theorem Own.there {b o : Nat} {c : List Value} {m : Nat} (h : Own w b o c m) : ∀ j, j < m → (w.cell? ⟨b, o + j, none⟩).isSome = true ∧ w.frozen? ⟨b, o + j, none⟩ = false := by
  obtain ⟨all, e, fz, h1, h2, h3, h4⟩ := h
  intro j hj
  constructor
  · simp only [World.cell?, h1]
    simp
    omega
  · simp only [World.frozen?, h1]
    by_cases hc : fz.1 ≤ o + j ∧ o + j < fz.2
    · have := h4 _ hc.1 hc.2; omega
    · by_cases hd : fz.1 ≤ o + j
      · have : ¬ (o + j < fz.2) := fun h => hc ⟨hd, h⟩
        simp [this]
      · simp [hd]
theorem own_set {b o : Nat} {c1 c2 c3 c2' : List Value} {m : Nat} (h : Own w b o (c1 ++ (c2 ++ c3)) m) (hl : c2'.length = c2.length) (hm : (c1 ++ (c2 ++ c3)).length ≤ m) :
    Own (w.setCells b (o + c1.length) c2') b o (c1 ++ (c2' ++ c3)) m ∧ (∀ k, k ≠ b → (w.setCells b (o + c1.length) c2').heap[k]? = w.heap[k]?) ∧ (w.setCells b (o + c1.length) c2').heap.size = w.heap.size ∧ (w.setCells b (o + c1.length) c2').os = w.os ∧ (w.setCells b (o + c1.length) c2').tape = w.tape ∧ (w.setCells b (o + c1.length) c2').output = w.output := by
  obtain ⟨all, e, fz, h1, h2, h3, h4⟩ := h
  simp at hm
  have hfit : o + c1.length + c2'.length ≤ all.size := by omega
  obtain ⟨g1, g2, g3, g4, g5, g6⟩ := setCells_heap b c2' (o + c1.length) w h1 hfit
  refine ⟨⟨_, e, fz, g1, fun j u hu => ?_, by rw [spliced_size hfit]; exact h3, fun j j1 j2 => by rw [spliced_size hfit]; exact h4 j j1 j2⟩, g2, g3, g4, g5, g6⟩
  rcases Nat.lt_or_ge j c1.length with hj | hj
  · rw [List.getElem?_append_left hj] at hu
    rw [spliced_out hfit (.inl (by omega))]
    exact h2 j u (by rw [List.getElem?_append_left hj]; exact hu)
  · rw [List.getElem?_append_right hj] at hu
    rcases Nat.lt_or_ge (j - c1.length) c2'.length with hj2 | hj2
    · rw [List.getElem?_append_left hj2] at hu
      have := spliced_in hfit hj2
      rw [show o + c1.length + (j - c1.length) = o + j by omega] at this
      rw [this]; exact hu
    · rw [List.getElem?_append_right hj2] at hu
      rw [spliced_out hfit (.inr (by omega))]
      exact h2 j u (by rw [List.getElem?_append_right hj, List.getElem?_append_right (by omega), ← hl]; exact hu)
/-- A store into a place. -/
theorem Inv.store (h : Inv w0 F0 Pb F A S tm w) {g : Nat} {c c' : X} (hg : S.r g = some c) {ra : RA} (hA : A g = some ra) (hcap : 0 < ra.cap) {c1 c2 c3 c2' : List Value} (hl : c2'.length = c2.length) (hok : RootOk w F A ra c (c1 ++ (c2 ++ c3)))
    (hrc : Rc w F A c' (c1 ++ (c2' ++ c3))) (har : c'.arD = c.arD) (hsz : c'.size = c.size) : Inv w0 F0 Pb F A { S with r := upd S.r g (some c') } tm (w.setCells ra.b (ra.o + c1.length) c2') := by
  have hlen := rc_len hok.rc
  have hm : (c1 ++ (c2 ++ c3)).length ≤ ra.cap * ra.d := by
    rw [hlen]
    have hd := hok.dim
    have hc := hok.cap
    cases c with
    | ar d xs => simp only [dimOk] at hd; simp only [X.size]; rw [hd.1, Nat.mul_comm]; exact Nat.mul_le_mul_right _ (by omega)
    | _ => simp only [dimOk] at hd; rw [hd.1, hd.2]; simp
  obtain ⟨o1, o2, o3, o4, o5, o6⟩ := own_set (hok.own hcap) hl hm
  have hsh : Shape w (w.setCells ra.b (ra.o + c1.length) c2') := by
    obtain ⟨all, e, fz, q1, q2, q3, q4⟩ := hok.own hcap
    simp at hm
    exact setCells_shape q1 (by omega)
  obtain ⟨n1, n2, n3⟩ := h.nw g ra hA hcap
  have kp : Keeps F w (w.setCells ra.b (ra.o + c1.length) c2') := fun k hk' => o2 k (fun e => n3 (e ▸ hk'))
  refine ⟨o4.trans h.os, o5.trans h.tape, o6.trans h.output, by rw [o3]; exact h.size, fun k h1 h2 => ?_, fun k hk' => by rw [o3]; exact h.fo k hk', fun v => (h.tv v).mono (fun _ h => h) kp (ASub.refl A), fun k x hx => ?_, fun k rb hk => ?_, h.sep, fun k rb hk hc => by rw [o3]; exact h.nw k rb hk hc, h.pin, h.shape.trans hsh⟩
  · by_cases e : k = ra.b
    · subst e; exact absurd (n2 h1) h2
    · rw [o2 k e]; exact h.keep k h1 h2
  · unfold upd at hx
    by_cases e : k = g
    · subst e
      simp at hx; subst hx
      exact ⟨ra, _, hA, ⟨rc_mono (fun _ h => h) kp (ASub.refl A) hrc, hok.cap, dimOk_congr har hsz hok.dim, fun _ => o1⟩⟩
    · simp only [e, if_false] at hx
      obtain ⟨rb, cs, h1, h2⟩ := h.rv k x hx
      exact ⟨rb, cs, h1, h2.mono (fun _ h => h) kp (ASub.refl A) (fun hc => o2 _ (h.sep k g rb ra h1 hA e hc hcap))⟩
  · by_cases e : k = g
    · subst e; exact ⟨c', by simp [upd]⟩
    · obtain ⟨x, hx⟩ := h.lv k rb hk
      exact ⟨x, by simpa [upd, e] using hx⟩
theorem run_storeAt (hT : TOk P T) {t : Nat} {ti : TI} (ht : T t = some ti) {b o : Nat} {v : Value} (hv : v.cells.size = ti.size) (h1 : ∀ u ∈ v.cells.toList, u.oneCell' = true) (hth : ∀ j, j < v.cells.size → (w.cell? ⟨b, o + j, none⟩).isSome = true ∧ w.frozen? ⟨b, o + j, none⟩ = false) :
    (Instr.storeAt t (.pointer (some ⟨b, o, none⟩)) v).run P w = .ok () (w.setCells b o v.cells.toList) := by
  have := run_storeCells_cells (P := P) b o v.cells.toList 0 w (fun j hj => by simpa using (hth j (by simpa using hj)).1) (fun j hj => by simpa using (hth j (by simpa using hj)).2) h1
  simp only [Nat.add_zero] at this
  simp only [Instr.storeAt, Instr.sureAddr, Sem.run_bind, Sem.run_pure, Result.andThen_ok, storeVar, run_sizeOf_T hT ht, hv, ne_eq, not_true, if_false]
  exact this
theorem setAt_dim : ∀ {p : List Nat} {c y v : X} {o : Nat}, nav c p = some (y, o) → v.size = y.size → v.agg = y.agg → (p = [] → v.arD = y.arD) → (setAt c p v).size = c.size ∧ (setAt c p v).arD = c.arD
  | [], c, y, v, o, h, hs, ha, hd => by
    simp only [nav, Option.some.injEq, Prod.mk.injEq] at h
    obtain ⟨rfl, rfl⟩ := h
    exact ⟨by simpa [setAt] using hs, by simpa [setAt] using hd rfl⟩
  | f :: p, .ag xs, y, v, o, h, hs, ha, hd => by
    obtain ⟨z, o', hz, hn, ho⟩ := nav_cons_ag h
    simp only at hn
    have ih : (setAt z p v).size = z.size := by
      by_cases hp : p = []
      · subst hp
        simp only [nav, Option.some.injEq, Prod.mk.injEq] at hn
        obtain ⟨rfl, rfl⟩ := hn
        simpa [setAt] using hs
      · exact (setAt_dim hn hs ha (fun e => absurd e hp)).1
    simp only [setAt, hz, X.size, X.arD]
    refine ⟨?_, trivial⟩
    have := sizeL_take_set (xs := xs) (j := f) (v := setAt z p v) (old := z) xs.length hz ih
    rw [List.take_of_length_le (by simp), List.take_of_length_le (by simp)] at this
    exact this
  | f :: p, .ar d xs, y, v, o, h, hs, ha, hd => by
    obtain ⟨z, o', hz, hn, ho⟩ := nav_cons_ar h
    simp [setAt, hz, X.size, X.arD]
  | f :: p, .bot, y, v, o, h, _, _, _ | f :: p, .b _, y, v, o, h, _, _, _ | f :: p, .i _ _, y, v, o, h, _, _, _ | f :: p, .s _, y, v, o, h, _, _, _ | f :: p, .tup _, y, v, o, h, _, _, _ | f :: p, .sl _ _, y, v, o, h, _, _, _
  | f :: p, .hw _, y, v, o, h, _, _, _ | f :: p, .hd _ _ _ _, y, v, o, h, _, _, _ | f :: p, .np, y, v, o, h, _, _, _ | f :: p, .pt _ _ _, y, v, o, h, _, _, _ | f :: p, .pf _, y, v, o, h, _, _, _ | f :: p, .nm, y, v, o, h, _, _, _
  | f :: p, .nf, y, v, o, h, _, _, _ | f :: p, .fn _ _, y, v, o, h, _, _, _ | f :: p, .ow _ _, y, v, o, h, _, _, _ | f :: p, .ob _, y, v, o, h, _, _, _ => by simp [nav] at h
variable {dst : Nat} {a : Act} {o : Oper} {x : X}
/-- What an operation with an effect gives. -/
def EOk (P : Program) (w0 : World) (F0 : Nat → Prop) (Pb : PB) (S' : St) (tm : Nat → Value) (w : World) (o : Oper) (a : Act) (x : X) : Prop :=
  ∀ (next : Act → World → Prop) (Q : Exit → Act → World → Prop), (∀ v w' F' A', Inv w0 F0 Pb F' A' S' tm w' → Rv w' F' A' x v → next (a.put o.dst v) w') → o.wp P a w next Q
theorem storeIn_ok (hT : TOk P T) (h : Inv w0 F0 Pb F A S tm w) {t : Nat} {ti : TI} (ht : T t = some ti) {g off : Nat} {p : List Nat} {v : X} {S' : St} {x : X} (hs : storeIn S ti g off p v = some (x, S')) {ra : RA} (hA : A g = some ra) (hcap : 0 < ra.cap) {vv : Value} (hv : Rv w F A v vv)
    {y : Operand} {z : Operand} (hop : o.op = .store t y z) (hy : a.eval y = .pointer (some ⟨ra.b, ra.o + off, none⟩)) (hz : a.eval z = vv) : EOk P w0 F0 Pb S' tm w o a x := by
  unfold storeIn at hs
  split at hs
  · rename_i c hg
    split at hs
    · rename_i y' o' hn
      split at hs
      · rename_i hh
        obtain ⟨rfl, hf1, hf2, hb, hia, har⟩ := hh
        cases hs
        obtain ⟨ra', cs, hA', hok⟩ := h.rv g c hg
        rw [hA] at hA'; cases hA'
        obtain ⟨c1, c2, c3, rfl, hl, hry, hset⟩ := navC hn hok.rc
        simp only [fits, Bool.and_eq_true, beq_iff_eq, Bool.not_eq_true'] at hf1 hf2
        have hR1 := Rv.one hv hb hf2.2
        have hcv := hR1.cells
        have hlv := rc_len hcv
        have hly := rc_len hry
        have hl2 : vv.cells.toList.length = c2.length := by rw [hlv, hly, hf2.1.1, hf1.1.1]
        have hnew := hset v _ hl2 hcv (fun hi => rc_rf (hia hi) hcv)
        have hdim := setAt_dim (v := v) hn (by rw [hf2.1.1, hf1.1.1]) (by rw [hf2.1.2, hf1.1.2]) (fun _ => har)
        have hI := h.store hg hA hcap hl2 hok hnew hdim.2 hdim.1
        intro next Q K
        have hlen := rc_len hok.rc
        have hm : (c1 ++ (c2 ++ c3)).length ≤ ra.cap * ra.d := by
          rw [hlen]
          have hd := hok.dim
          have hc := hok.cap
          cases c with
          | ar d xs => simp only [dimOk] at hd; simp only [X.size]; rw [hd.1, Nat.mul_comm]; exact Nat.mul_le_mul_right _ (by omega)
          | _ => simp only [dimOk] at hd; rw [hd.1, hd.2]; simp
        have hrun := run_storeAt (P := P) (w := w) hT ht (b := ra.b) (o := ra.o + o') (v := vv) (by rw [← Array.length_toList, hlv, hf2.1.1]) (rc_cell hcv) (fun j hj => by
          have := (hok.own hcap).there (o' + j) (by simp at hm hl2; omega)
          rwa [show ra.o + (o' + j) = ra.o + o' + j by omega] at this)
        unfold Oper.wp
        have hex : (execOp a.eval o).run P w = .ok .skip (w.setCells ra.b (ra.o + o') vv.cells.toList) := by
          simp [execOp, hop, hy, hz, hrun]
        rw [hex, Oper.upon_skip]
        rw [hl] at hI
        exact K undef _ F A hI trivial
      · cases hs
    · cases hs
  · cases hs

theorem storeX_ok (hT : TOk P T) (h : Inv w0 F0 Pb F A S tm w) (hev : ∀ x, Rv w F A (S.ev x) (a.eval x)) {t : Nat} {y z : Operand} (hop : o.op = .store t y z) {S' : St} (hs : storeX T S t (S.ev y) (S.ev z) = some (x, S')) : EOk P w0 F0 Pb S' tm w o a x := by
  have hy := hev y
  have hz := hev z
  unfold storeX at hs
  split at hs
  · rename_i g off p he
    rw [he] at hy
    obtain ⟨ra, hA, hc, hv⟩ := pt_of hy
    split at hs
    · rename_i ti c ht hg
      split at hs
      · split at hs
        · rename_i v1 S1 hfr1 hfz
          obtain ⟨v', hfr, rfl⟩ := Option.map_eq_some_iff.1 hfr1
          obtain ⟨F1, A1, hI1, hF1, hg1, hA1⟩ := h.freezeL hfz
          have hnb : (S.ev z).isBot = false ∧ (S.ev z).isTup = false := by cases hx : S.ev z <;> rw [hx] at hfr <;> simp_all [frz, X.isBot, X.isTup]
          obtain ⟨cs, hcs, hval⟩ := Rv.one hz hnb.1 hnb.2
          have hrf := frz_ok h.places hF1 hfr hg1 hcs
          have hagg : v'.agg = (S.ev z).agg := by
            cases hx : S.ev z with
            | ag xs => rw [hx] at hfr; simp only [frz] at hfr; obtain ⟨_, _, rfl⟩ := Option.map_eq_some_iff.1 hfr; rfl
            | hw g => rw [hx] at hfr; simp only [frz] at hfr; split at hfr <;> cases hfr; rfl
            | hd g lo len f => rw [hx] at hfr; simp only [frz] at hfr; split at hfr <;> cases hfr; rfl
            | pt g o p => rw [hx] at hfr; simp only [frz] at hfr; obtain ⟨_, _, _, _, _, rfl⟩ := ptF_some hfr; rfl
            | _ => rw [hx] at hfr; simp only [frz, Option.some.injEq] at hfr <;> first | (subst hfr; rfl) | (cases hfr; done)
          have hv' : Rv w F1 A1 v'.wk (a.eval z) := R1.rv ⟨cs, rf_rc (rf_wk hrf), by rw [hval, wk_val]; simp [val, hagg]⟩
          have hA1' : A1 g = some ra := by
            cases hg1 : S1.r g with
            | none => unfold storeIn at hs; rw [hg1] at hs; cases hs
            | some c' =>
              obtain ⟨rb, _, hb, _⟩ := hI1.rv g c' hg1
              have := hA1 g rb hb
              rw [hA] at this; cases this
              exact hb
          exact storeIn_ok hT hI1 ht hs hA1' hc hv' hop hv rfl
        · cases hs
      · exact storeIn_ok hT h ht hs hA hc hz hop hv rfl
    · cases hs
  · cases hs
/-! ### append -/
theorem run_append (t0 ty e : TypeId) (i : TypeInfo) (z : Value) (ts : Array Nat) (h0 : ts[0]? = some t0) (hu : P.underlying t0 = some (.slice e)) (hi : P.info? e = some i) (hz : i.zero = some z)
    (h1 : ∃ t1 d1, ts[1]? = some t1 ∧ P.underlying t1 = some d1 ∧ ∀ k, d1 ≠ .int k) (ad : Option Addr) (sLen sCap : Nat) (xv : Value) (n : Nat) (news : List Value) (hlen : ∀ w, (Builtin.lenOf xv).run P w = .ok n w)
    (hf : ∀ w', w'.heap = w.heap → (Builtin.firstCells i.size n xv).run P w' = .ok news.toArray w') :
    (sLen + n ≤ sCap → (∀ b o, ad = some ⟨b, o, none⟩ → (storeCells ⟨b, o + sLen * i.size, none⟩ news).run P w = .ok () (w.setCells b (o + sLen * i.size) news)) → (∀ q, ad = some q → q.spot = none) →
      (Builtin.append_ ts ty #[.slice ad sLen sCap, xv]).run P w = .ok (.slice ad (sLen + n) sCap) (match ad with | some q => w.setCells q.block (q.off + sLen * i.size) news | none => w)) ∧
    (¬ (sLen + n ≤ sCap) → ∀ olds : List Value, (∀ w', w'.heap = w.heap → (Builtin.firstCells i.size sLen (.slice ad sLen sCap)).run P w' = .ok olds.toArray w') → ((sLen + n : Nat) : Int) ≤ 9223372036854775807 → Builtin.nextslicecap (sLen + n) sCap * i.bytes ≤ 281474976710656 →
      0 < i.bytes → (Builtin.append_ ts ty #[.slice ad sLen sCap, xv]).run P w = .ok (.slice (some ⟨w.heap.size, 0, none⟩) (sLen + n) (grownCap w (sLen + n) sCap e))
        (w.drew.alloc (.cells (olds.toArray ++ news.toArray ++ Builtin.zeroCells z.cells (grownCap w (sLen + n) sCap e - (sLen + n))) e))) := by
  obtain ⟨t1, d1, ht1, hu1, hd1⟩ := h1
  have hd2 : (match d1 with | .int _ => true | _ => false) = false := by cases d1 <;> first | rfl | (exfalso; exact hd1 _ rfl)
  constructor
  · intro hroom hst hsp
    cases ad with
    | none => simp [Builtin.append_, h0, run_underlying hu, sizeOf, typeInfo, hi, ht1, run_underlying hu1, hd2, hlen, hroom, hf w rfl]
    | some q =>
      have hq := spot_eta (hsp q rfl)
      have hst' := hst q.block q.off (by rw [← hq])
      have hadd : q.add (sLen * i.size) = ⟨q.block, q.off + sLen * i.size, none⟩ := by rw [hq]; simp [Addr.add_mid]
      simp [Builtin.append_, h0, run_underlying hu, sizeOf, typeInfo, hi, ht1, run_underlying hu1, hd2, hlen, hroom, hf w rfl, hadd, hst']
  · intro hroom olds hfo h63 hcap hby
    have h63' : ¬ (9223372036854775807 < ((sLen : Int) + (n : Int))) := by omega
    have h48' : ¬ (281474976710656 < Builtin.nextslicecap (sLen + n) sCap * i.bytes) := by omega
    simp [Builtin.append_, h0, run_underlying hu, sizeOf, typeInfo, hi, ht1, run_underlying hu1, hd2, hlen, hroom, h63', h48', Question.forced, hf w.drew rfl, hfo w.drew rfl, newRow, grownCap, zeroValue, hz]
    congr 2
    apply Array.ext'
    simp [List.append_assoc]

theorem rfE_append {d : Nat} : ∀ {xs ys : List X} {c1 c2 : List Value}, RfE w F d xs c1 → RfE w F d ys c2 → RfE w F d (xs ++ ys) (c1 ++ c2)
  | [], ys, c1, c2, h1, h2 => by simp only [RfE] at h1; subst h1; simpa using h2
  | x :: xs, ys, c1, c2, h1, h2 => by
    simp only [RfE] at h1
    obtain ⟨d1, d2, rfl, hd, hx, hxs⟩ := h1
    simp only [List.cons_append, RfE]
    exact ⟨d1, d2 ++ c2, by simp, hd, hx, rfE_append hxs h2⟩
theorem own_grow {b o : Nat} {pc news : List Value} {m : Nat} (h : Own w b o pc m) (hm : pc.length + news.length ≤ m) :
    Own (w.setCells b (o + pc.length) news) b o (pc ++ news) m ∧ (∀ k, k ≠ b → (w.setCells b (o + pc.length) news).heap[k]? = w.heap[k]?) ∧ (w.setCells b (o + pc.length) news).heap.size = w.heap.size ∧ (w.setCells b (o + pc.length) news).os = w.os ∧ (w.setCells b (o + pc.length) news).tape = w.tape ∧ (w.setCells b (o + pc.length) news).output = w.output := by
  obtain ⟨all, e, fz, h1, h2, h3, h4⟩ := h
  have hl : ((all.toList.drop (o + pc.length)).take news.length).length = news.length := by simp; omega
  have h' : Own w b o (pc ++ ((all.toList.drop (o + pc.length)).take news.length ++ [])) m := by
    refine ⟨all, e, fz, h1, fun j u hu => ?_, h3, h4⟩
    rcases Nat.lt_or_ge j pc.length with hj | hj
    · rw [List.getElem?_append_left hj] at hu; exact h2 j u hu
    · rw [List.getElem?_append_right hj, List.append_nil, List.getElem?_take] at hu
      split at hu
      · rw [List.getElem?_drop] at hu
        rw [show o + pc.length + (j - pc.length) = o + j by omega] at hu
        simpa using hu
      · cases hu
  have := own_set (c2' := news) h' hl.symm (by simp; omega)
  simpa using this
theorem size_of_all {d es : Nat} {ys : List X} {cs : List Value} (hall : ys.all (fun z => z.size == es) = true) (hr : RfE w F d ys cs) (hne : ys ≠ []) : d = es := by
  cases ys with
  | nil => exact absurd rfl hne
  | cons y ys =>
    simp only [List.all_cons, Bool.and_eq_true, beq_iff_eq] at hall
    simp only [RfE] at hr
    obtain ⟨c1, c2, rfl, hd, hry, _⟩ := hr
    rw [← hall.1, ← rf_len hry, hd]
theorem cell_heap {w' : World} (h : w'.heap = w.heap) (a : Addr) : w'.cell? a = w.cell? a := by simp [World.cell?, h]
/-- What is appended, in memory. -/
theorem more_ok (hT : TOk P T) (h : Inv w0 F0 Pb F A S tm w) {t1 : Nat} {es : Nat} {yx : X} {ys : List X} (hm : moreX S.r (tdOf T t1) yx = some ys) (hall : ys.all (fun z => z.size == es) = true) {yv : Value} (hy : Rv w F A yx yv) :
    (∃ d1, P.underlying t1 = some d1 ∧ ∀ k, d1 ≠ .int k) ∧ ∃ news : List Value, RfE w F es ys news ∧ (∀ w, (Builtin.lenOf yv).run P w = .ok ys.length w) ∧ ∀ w', w'.heap = w.heap → (Builtin.firstCells es ys.length yv).run P w' = .ok news.toArray w' := by
  unfold moreX at hm
  split at hm
  · rename_i e he
    obtain ⟨ti, i1, i2⟩ := td_ok hT he
    obtain ⟨_, d1, _, hu1, _, _, hd1, _⟩ := desc_ok hT i1
    rw [i2] at hd1
    simp only [descOk] at hd1
    subst hd1
    refine ⟨⟨_, hu1, fun k => by simp⟩, ?_⟩
    have hm' : elems S.r yx = some ys := by cases yx <;> first | (cases hm; done) | exact hm
    obtain ⟨ad, n, rfl, hn, hmem⟩ := elems_ok h.places hm' hy
    by_cases hne : ys = []
    · subst hne
      refine ⟨[], by simp [RfE], fun w => by simp [Builtin.lenOf], fun w' _ => ?_⟩
      cases ad <;> simp [Builtin.firstCells, loadCells, loadCellsFrom]
    · rcases hmem with hmem | ⟨b, o, d, cs, rfl, hrf, hme⟩
      · exact absurd hmem hne
      · have hd := size_of_all hall hrf hne
        subst hd
        refine ⟨cs, hrf, fun w => by simp [Builtin.lenOf], fun w' hw => ?_⟩
        have := run_firstCells_some (P := P) w' d ys.length ⟨b, o, none⟩ ys.length n cs (by rw [rfE_len hrf, Nat.mul_comm]) (fun j v hv => by rw [cell_heap hw, Addr.add_mid]; exact hme j v hv)
        exact this
  · rename_i he
    obtain ⟨ti, i1, i2⟩ := td_ok hT he
    obtain ⟨_, d1, _, hu1, _, _, hd1, _⟩ := desc_ok hT i1
    rw [i2] at hd1
    simp only [descOk] at hd1
    subst hd1
    refine ⟨⟨_, hu1, fun k => by simp⟩, ?_⟩
    split at hm
    · rename_i l
      cases hm
      obtain rfl := str_of hy
      have hsz : (⟨l.toArray⟩ : ByteArray).size = l.length := by show l.toArray.size = _; simp
      have hcs : ∀ (l : List UInt8), RfE w F 1 (ofBytes l) (l.map fun b => Value.int .u8 b.toNat) := by
        intro l
        induction l with
        | nil => simp [ofBytes, RfE]
        | cons c l ih => exact ⟨[.int .u8 c.toNat], _, rfl, rfl, by simp [Rf], ih⟩
      have he1 : RfE w F es (ofBytes l) (l.map fun b => Value.int .u8 b.toNat) := by
        by_cases hne : ofBytes l = []
        · have : l = [] := by simpa [ofBytes] using hne
          subst this
          simp [ofBytes, RfE]
        · have := size_of_all hall (hcs l) hne
          rw [← this]; exact hcs l
      refine ⟨_, he1, fun w => by simp [Builtin.lenOf, hsz, ofBytes], fun w' _ => ?_⟩
      have hex : (⟨l.toArray⟩ : ByteArray).extract 0 l.length = ⟨l.toArray⟩ := by
        apply ByteArray.ext
        simp [ByteArray.data_extract]
      simp [Builtin.firstCells, ofBytes, hex]
    · cases hm
  · cases hm
theorem run_v' {s : Sem Value} {v : Value} {w' : World} (h : s.run P w = .ok v w') : (do pure (.value (← s)) : Sem Next).run P w = .ok (.value v) w' := by simp [h]
/-- An append: what is there already lies in memory; if there is room, the block is the slice's own. -/
theorem append_core (hT : TOk P T) {S1 : St} {A1 : Nat → Option RA} (h1 : Inv w0 F0 Pb F A1 S1 tm w) {t0 t1 e : Nat} {ti ei : TI} (ht : T t0 = some ti) (htd : ti.td = .sl e) (he : T e = some ei) (hby : ei.bytes ≤ 65536 ∧ 0 < ei.bytes) (hsz : 0 < ei.size) {c : Call} (h0 : c.argTypes[0]? = some t0) (ht1 : c.argTypes[1]? = some t1)
    (hd1 : ∃ d1, P.underlying t1 = some d1 ∧ ∀ k, d1 ≠ .int k) {ad : Option Addr} {sCap : Nat} {pl ys : List X} {pc news : List Value} (hsl : pl.length ≤ sCap) (hpc : RfE w F ei.size pl pc) (hmem : pl = [] ∨ ∃ b o, ad = some ⟨b, o, none⟩ ∧ MemAt w b o pc)
    (hnews : RfE w F ei.size ys news) {yv : Value} (hlen : ∀ w, (Builtin.lenOf yv).run P w = .ok ys.length w) (hf : ∀ w', w'.heap = w.heap → (Builtin.firstCells ei.size ys.length yv).run P w' = .ok news.toArray w')
    (hroom : pl.length + ys.length ≤ sCap → sCap = 0 ∨ ∃ b o, ad = some ⟨b, o, none⟩ ∧ Own w b o pc (sCap * ei.size) ∧ ¬ F b ∧ b < w.heap.size ∧ (b < w0.heap.size → Pb b) ∧ ∀ k rb, A1 k = some rb → 0 < rb.cap → rb.b ≠ b)
    (hsmall : pl.length + ys.length ≤ 2147483647) {y z : Operand} (hop : o.op = .call c) (hcal : c.callee = .builtin .append) (hargs : c.args = #[y, z]) (hy : a.eval y = .slice ad pl.length sCap) (hz : a.eval z = yv) {S' : St} (hg : growX S1 dst ei.size (pl ++ ys) = some (x, S')) : EOk P w0 F0 Pb S' tm w o a x := by
  unfold growX at hg
  split at hg
  · rename_i hgn0
    obtain ⟨hgn, hgl⟩ := freeN_none hgn0
    cases hg
    obtain ⟨i, d, hi, hu0, hs, _, hdesc, _⟩ := desc_ok hT ht
    rw [htd] at hdesc
    simp only [descOk] at hdesc
    subst hdesc
    obtain ⟨ie, zv, cs, hie, hze, hzv, hzc, hrf⟩ := zero_ok w F A1 hT he
    obtain ⟨ie', _, hie', _, hsi, hbi, _⟩ := desc_ok hT he
    rw [hie] at hie'; cases hie'
    obtain ⟨d1, hu1, hd1⟩ := hd1
    have hrun := run_append (P := P) (w := w) t0 o.type e ie zv c.argTypes h0 hu0 hie hze ⟨t1, d1, ht1, hu1, hd1⟩ ad pl.length sCap yv ys.length news hlen (by rw [hsi]; exact hf)
    have hlpc : pc.length = pl.length * ei.size := by rw [rfE_len hpc, Nat.mul_comm]
    have hlnews : news.length = ys.length * ei.size := by rw [rfE_len hnews, Nat.mul_comm]
    have hexec : execOp a.eval o = (do pure (.value (← Builtin.append_ c.argTypes o.type #[.slice ad pl.length sCap, yv])) : Sem Next) := by
      simp [execOp, hop, resolve, hcal, invoke, builtin, hargs, hy, hz]
    intro next Q K
    unfold Oper.wp
    rw [hexec]
    by_cases hr : pl.length + ys.length ≤ sCap
    · rcases hroom hr with hz0 | ⟨b, o', rfl, hown, hnF, hblt, hbP, hbA⟩
      · -- no room at all, nothing is appended
        subst hz0
        have hpl : pl = [] := List.eq_nil_of_length_eq_zero (by omega)
        have hys : ys = [] := List.eq_nil_of_length_eq_zero (by omega)
        subst hpl; subst hys
        simp only [List.length_nil, Nat.zero_mul] at hlnews
        have hnn : news = [] := List.eq_nil_of_length_eq_zero hlnews
        subst hnn
        have hr2 : (Builtin.append_ c.argTypes o.type #[.slice ad 0 0, yv]).run P w = .ok (.slice ad 0 0) w := by
          have := hrun.1 (by simp) (fun b o hb => by simp [storeCells, World.setCells])
          cases ad with
          | none => simpa using this (by simp)
          | some q =>
            have h0' : (Builtin.firstCells ei.size 0 yv).run P w = .ok #[] w := by simpa using hf w rfl
            obtain ⟨h00, h01⟩ : True ∧ True := ⟨trivial, trivial⟩
            have hd2 : (match d1 with | .int _ => true | _ => false) = false := by cases d1 <;> first | rfl | (exfalso; exact hd1 _ rfl)
            have hl0 : ∀ w, (Builtin.lenOf yv).run P w = .ok 0 w := by simpa using hlen
            simp [Builtin.append_, h0, run_underlying hu0, sizeOf, typeInfo, hie, hsi, ht1, run_underlying hu1, hd2, hl0, h0', storeCells]
        have hI := h1.add (g := dst) hgn (ra := ⟨0, 0, 0, ei.size, 0⟩) (x := .ar ei.size []) (c := []) ⟨by simp [Rc, Rf, RfE], by simp, ⟨rfl, rfl⟩, fun h => by simp at h⟩ (fun h => by simp at h) (nl hgl)
        simp only [List.length_nil] at *
        rw [run_v' hr2]
        refine K _ w F _ (by simpa using hI) (hw_ok (ra := ⟨0, 0, 0, ei.size, 0⟩) (by simp [upd]) (by simp) (by simp) (.inl rfl))
      · -- there is room
        obtain ⟨g1, g2, g3, g4, g5, g6⟩ := own_grow (news := news) hown (by rw [hlpc, hlnews, ← Nat.add_mul]; exact Nat.mul_le_mul_right _ hr)
        have hst : (storeCells ⟨b, o' + pl.length * ei.size, none⟩ news).run P w = .ok () (w.setCells b (o' + pl.length * ei.size) news) := by
          have := run_storeCells_cells (P := P) b (o' + pl.length * ei.size) news 0 w (fun j hj => by
            have := (hown.there (pl.length * ei.size + j) (by
              have : (pl.length + ys.length) * ei.size ≤ sCap * ei.size := Nat.mul_le_mul_right _ hr
              rw [Nat.add_mul] at this; omega)).1
            rwa [show o' + (pl.length * ei.size + j) = o' + pl.length * ei.size + 0 + j by omega] at this) (fun j hj => by
            have := (hown.there (pl.length * ei.size + j) (by
              have : (pl.length + ys.length) * ei.size ≤ sCap * ei.size := Nat.mul_le_mul_right _ hr
              rw [Nat.add_mul] at this; omega)).2
            rwa [show o' + (pl.length * ei.size + j) = o' + pl.length * ei.size + 0 + j by omega] at this) (rfE_cell hnews)
          simpa using this
        have hr2 := hrun.1 hr (fun b2 o2 hb => by simp only [Option.some.injEq, Addr.mk.injEq] at hb; obtain ⟨rfl, rfl, _⟩ := hb; rw [hsi]; exact hst) (fun q hq => by cases hq; rfl)
        simp only [hsi] at hr2
        rw [run_v' hr2]
        rw [← hlpc]
        have hI := h1.touch g2 (by rw [g3]; exact Nat.le_refl _) g4 g5 g6 hnF hbP hbA (by
          obtain ⟨all, e', fz, o1, o2, o3, o4⟩ := hown
          have := Nat.mul_le_mul_right ei.size hr
          rw [Nat.add_mul] at this
          exact setCells_shape o1 (by rw [hlnews]; omega))
        have kp : Keeps F w (w.setCells b (o' + pc.length) news) := fun k hk' => g2 k (fun e => hnF (e ▸ hk'))
        have hrfe := rfE_mono (fun _ h => h) kp (rfE_append hpc hnews)
        have hI2 := hI.add (g := dst) hgn (ra := ⟨b, o', sCap, ei.size, (pl ++ ys).length⟩) (x := .ar ei.size (pl ++ ys)) (c := pc ++ news) ⟨by simpa only [Rc, Rf] using hrfe, by simpa using hr, ⟨rfl, rfl⟩, fun _ => g1⟩ (fun _ => ⟨by rw [g3]; exact hblt, hbP, hnF, fun k rb hk hc => Ne.symm (hbA k rb hk hc)⟩) (nl hgl)
        have hv := hw_ok (w := w.setCells b (o' + pc.length) news) (F := F) (A := upd A1 dst (some ⟨b, o', sCap, ei.size, (pl ++ ys).length⟩)) (g := dst) (ra := ⟨b, o', sCap, ei.size, (pl ++ ys).length⟩) (a := some ⟨b, o', none⟩) (c := sCap) (by simp [upd]) (by simpa using hr) (Nat.le_refl _) (.inr rfl)
        refine K _ _ F _ hI2 ?_
        simpa using hv
    · -- a new block
      have holds : ∀ w', w'.heap = w.heap → (Builtin.firstCells ie.size pl.length (.slice ad pl.length sCap)).run P w' = .ok pc.toArray w' := by
        intro w' hw
        rcases hmem with rfl | ⟨b, o', rfl, hme⟩
        · simp only [List.length_nil, Nat.zero_mul] at hlpc
          have : pc = [] := List.eq_nil_of_length_eq_zero hlpc
          subst this
          cases ad <;> simp [Builtin.firstCells, loadCells, loadCellsFrom]
        · rw [hsi]
          exact run_firstCells_some (P := P) w' ei.size pl.length ⟨b, o', none⟩ pl.length sCap pc hlpc (fun j v hv => by rw [cell_heap hw, Addr.add_mid]; exact hme j v hv)
      have hcapb : Builtin.nextslicecap (pl.length + ys.length) sCap * ie.bytes ≤ 281474976710656 := growslice_fits (by omega) (by
        rw [hbi]
        have := Nat.mul_le_mul hsmall hby.1
        omega)
      have hr2 := hrun.2 hr pc holds (by omega) hcapb (by rw [hbi]; exact hby.2)
      rw [run_v' hr2]
      have hge := grownCap_ge w (pl.length + ys.length) sCap e
      have hzs : zv.cells.size = ei.size := by
        have hfit := (hT e ei he).fit
        simp only [fits, Bool.and_eq_true, beq_iff_eq] at hfit
        rw [← Array.length_toList, hzc, rf_len (hrf w F), hfit.1.1]
      have hb : Below w.heap.size w (w.drew.alloc (.cells (pc.toArray ++ news.toArray ++ Builtin.zeroCells zv.cells (grownCap w (pl.length + ys.length) sCap e - (pl.length + ys.length))) e)) := ((Below.refl _ _).drew).alloc (Nat.le_refl _) _
      have hI := h1.new hb (all := pc.toArray ++ news.toArray ++ Builtin.zeroCells zv.cells (grownCap w (pl.length + ys.length) sCap e - (pl.length + ys.length))) (e := e) (fz := (0, 0)) (heap_alloc_new w.drew _) (by simp) hgn
        (ra := ⟨w.heap.size, 0, grownCap w (pl.length + ys.length) sCap e, ei.size, (pl ++ ys).length⟩) rfl (x := .ar ei.size (pl ++ ys)) (c := pc ++ news) (by simpa only [Rc, Rf] using rfE_append hpc hnews) (fun j u hu => by
          simp only [Nat.zero_add]
          rw [Array.getElem?_append_left (by have := (List.getElem?_eq_some_iff.1 hu).1; simpa using this)]
          simpa using hu) (by simpa using hge) ⟨rfl, rfl⟩ (by
          simp only [Nat.zero_add, Array.size_append, List.size_toArray, size_zeroCells, hzs, hlpc, hlnews, ← Nat.add_mul]
          exact Nat.mul_le_mul_right _ (by omega)) (nl hgl)
      refine K _ _ F _ hI ?_
      have hv := hw_ok (w := w.drew.alloc (.cells (pc.toArray ++ news.toArray ++ Builtin.zeroCells zv.cells (grownCap w (pl.length + ys.length) sCap e - (pl.length + ys.length))) e)) (F := F) (A := upd A1 dst (some ⟨w.heap.size, 0, grownCap w (pl.length + ys.length) sCap e, ei.size, (pl ++ ys).length⟩)) (g := dst) (ra := ⟨w.heap.size, 0, grownCap w (pl.length + ys.length) sCap e, ei.size, (pl ++ ys).length⟩) (a := some ⟨w.heap.size, 0, none⟩) (c := grownCap w (pl.length + ys.length) sCap e) (by simp [upd]) (by simpa using hge) (Nat.le_refl _) (.inr rfl)
      simpa using hv
  · cases hg

theorem gone_some {p : Nat → Bool} {k : Nat} {rb : RA} (h : gone A p k = some rb) : p k = false ∧ A k = some rb := by
  unfold gone at h
  split at h
  · cases h
  · rename_i hp; exact ⟨by simpa using hp, h⟩
theorem appendX_ok (hT : TOk P T) (h : Inv w0 F0 Pb F A S tm w) (hev : ∀ x, Rv w F A (S.ev x) (a.eval x)) {c : Call} {y z : Operand} (hop : o.op = .call c) (hcal : c.callee = .builtin .append) (hargs : c.args = #[y, z]) {S' : St}
    (hs : appendX T S dst c.argTypes (S.ev y) (S.ev z) = some (x, S')) : EOk P w0 F0 Pb S' tm w o a x := by
  have hy := hev y
  have hz := hev z
  unfold appendX at hs
  split at hs
  · rename_i e _ _ _ ht0
    obtain ⟨t0, h0, ht⟩ := Option.bind_eq_some_iff.1 ht0
    split at hs
    · rename_i ei ys he hm
      cases ht1 : c.argTypes[1]? with
      | none => rw [ht1] at hm; simp [moreX] at hm
      | some t1 =>
        rw [ht1] at hm
        simp only [Option.bind_some] at hm
        split at hs
        · rename_i hh
          obtain ⟨hb1, hb2, hsz, hall⟩ := hh
          obtain ⟨hd1, news, hnews, hlen, hf⟩ := more_ok hT h hm hall hz
          split at hs
          · rename_i g hex
            rw [hex] at hy
            obtain ⟨ra, ad, c', hA, hyv, g1, g2, g3⟩ := hw_of hy
            split at hs
            · rename_i d cx hg
              split at hs
              · rename_i hh2
                obtain ⟨hsm, rfl⟩ := hh2
                simp only [small, decide_eq_true_eq] at hsm
                obtain ⟨pc, hpc, hd, hn, hcap, hown⟩ := h.places.ar hg hA
                have h1 := h.dropIf (· == g)
                rw [hn] at hyv
                refine append_core hT h1 ht rfl he ⟨hb1, hb2⟩ hsz h0 ht1 hd1 (ad := ad) (sCap := c') (by omega) hpc ?_ hnews hlen hf ?_ hsm hop hcal hargs hyv rfl hs
                · by_cases hc : cx = []
                  · exact .inl hc
                  · have : 0 < cx.length := List.length_pos_iff.2 hc
                    rcases g3 with g3 | rfl
                    · omega
                    · exact .inr ⟨_, _, rfl, (hown (by omega)).mem⟩
                · intro hr
                  rcases g3 with g3 | rfl
                  · exact .inl g3
                  · by_cases hc0 : c' = 0
                    · exact .inl hc0
                    · right
                      obtain ⟨n1, n2, n3⟩ := h.nw g ra hA (by omega)
                      refine ⟨ra.b, ra.o, rfl, ?_, n3, n1, n2, fun k rb hk hc => ?_⟩
                      · obtain ⟨all, e', fz, o1, o2, o3, o4⟩ := hown (by omega)
                        refine ⟨all, e', fz, o1, o2, ?_, o4⟩
                        have : c' * ei.size ≤ ra.cap * ei.size := Nat.mul_le_mul_right _ g2
                        rw [hd] at o3; omega
                      · obtain ⟨hk1, hk2⟩ := gone_some hk
                        exact h.sep k g rb ra hk2 hA (by simpa using hk1) hc (by omega)
              · cases hs
            · cases hs
          · rename_i g lo len fl hex
            rw [hex] at hy
            obtain ⟨ra, ad, c', hA, hyv, g1, g2, g4, g5, g3⟩ := hd_of hy
            split at hs
            · rename_i d cx hg
              split at hs
              · rename_i hh2
                obtain ⟨hsm, rfl⟩ := hh2
                simp only [small, decide_eq_true_eq] at hsm
                obtain ⟨pc, hpc, hd, hn, hcap, hown⟩ := h.places.ar hg hA
                have h1 := h.dropIf (· == g)
                have hl : (mid lo len cx).length = len := by simp [mid]; omega
                rw [← hl] at hyv
                refine append_core hT h1 ht rfl he ⟨hb1, hb2⟩ hsz h0 ht1 hd1 (ad := ad) (sCap := c') (by omega) (rfE_mid lo len hpc) ?_ hnews hlen hf ?_ (by rw [hl]; exact hsm) hop hcal hargs hyv rfl hs
                · by_cases hc : mid lo len cx = []
                  · exact .inl hc
                  · have : 0 < (mid lo len cx).length := List.length_pos_iff.2 hc
                    rcases g3 with g3 | rfl
                    · omega
                    · refine .inr ⟨_, _, rfl, ?_⟩
                      have := MemAt.sub (hown (by omega)).mem (lo * ra.d) (len * ra.d)
                      rw [hd] at this ⊢
                      exact this
                · intro hr
                  rcases g3 with g3 | rfl
                  · exact .inl g3
                  · by_cases hc0 : c' = 0
                    · exact .inl hc0
                    · right
                      obtain ⟨n1, n2, n3⟩ := h.nw g ra hA (by omega)
                      refine ⟨ra.b, ra.o + lo * ra.d, rfl, ?_, n3, n1, n2, fun k rb hk hc => ?_⟩
                      · obtain ⟨all, e', fz, o1, o2, o3, o4⟩ := hown (by omega)
                        refine ⟨all, e', fz, o1, fun j u hu => ?_, ?_, o4⟩
                        · rw [List.getElem?_take] at hu
                          split at hu
                          · rw [List.getElem?_drop] at hu
                            have := o2 _ u hu
                            rw [hd, show ra.o + lo * ei.size + j = ra.o + (lo * ei.size + j) by omega]
                            exact this
                          · cases hu
                        · have : (lo + c') * ei.size ≤ ra.cap * ei.size := Nat.mul_le_mul_right _ g2
                          rw [Nat.add_mul] at this
                          rw [hd] at o3 ⊢; omega
                      · obtain ⟨hk1, hk2⟩ := gone_some hk
                        exact h.sep k g rb ra hk2 hA (by simpa using hk1) hc (by omega)
              · cases hs
            · cases hs
          · rename_i zs hex
            rw [hex] at hy
            obtain ⟨ad, c', hyv, g1, g2, g3⟩ := sl_of hy
            split at hs
            · rename_i hh2
              obtain ⟨hsm, hemp, hall2⟩ := hh2
              simp only [small, decide_eq_true_eq] at hsm
              have hc' := g2 rfl
              subst hc'
              have hpc : ∃ pc, RfE w F ei.size zs pc ∧ (zs = [] ∨ ∃ b o, ad = some ⟨b, o, none⟩ ∧ MemAt w b o pc) := by
                rcases g3 with rfl | ⟨a0, d, cs', rfl, hsp, hF, hrf, hme⟩
                · exact ⟨[], by simp [RfE], .inl rfl⟩
                · by_cases hne : zs = []
                  · subst hne; exact ⟨[], by simp [RfE], .inl rfl⟩
                  · have := size_of_all hall2 hrf hne
                    subst this
                    exact ⟨cs', hrf, .inr ⟨a0.block, a0.off, by rw [← spot_eta hsp], hme⟩⟩
              obtain ⟨pc, hpc, hme⟩ := hpc
              refine append_core hT h ht rfl he ⟨hb1, hb2⟩ hsz h0 ht1 hd1 (ad := ad) (sCap := zs.length) (by omega) hpc hme hnews hlen hf ?_ hsm hop hcal hargs hyv rfl hs
              intro hr
              left
              simp only [Bool.or_eq_true, List.isEmpty_iff, Bool.not_eq_true'] at hemp
              rcases hemp with rfl | hemp
              · rfl
              · have : ys = [] := List.eq_nil_of_length_eq_zero (by omega)
                subst this; simp at hemp
            · cases hs
          · cases hs
        · cases hs
    · cases hs
  · cases hs
/-- What is copied, in memory. -/
theorem more_take (hT : TOk P T) (h : Inv w0 F0 Pb F A S tm w) {t1 : Nat} {es : Nat} {yx : X} {ys : List X} (hm : moreX S.r (tdOf T t1) yx = some ys) (hall : ys.all (fun z => z.size == es) = true) {yv : Value} (hy : Rv w F A yx yv) (m : Nat) (hml : m ≤ ys.length) :
    ∃ news : List Value, RfE w F es (ys.take m) news ∧ (∀ w, (Builtin.lenOf yv).run P w = .ok ys.length w) ∧ (Builtin.firstCells es m yv).run P w = .ok news.toArray w := by
  unfold moreX at hm
  split at hm
  · rename_i e he
    have hm' : elems S.r yx = some ys := by cases yx <;> first | (cases hm; done) | exact hm
    obtain ⟨ad, n, rfl, hn, hmem⟩ := elems_ok h.places hm' hy
    by_cases hne : ys = []
    · subst hne
      have hm0 : m = 0 := by simpa using hml
      subst hm0
      refine ⟨[], by simp [RfE], fun w => by simp [Builtin.lenOf], ?_⟩
      cases ad <;> simp [Builtin.firstCells, loadCells, loadCellsFrom]
    · rcases hmem with hmem | ⟨b, o, d, cs, rfl, hrf, hme⟩
      · exact absurd hmem hne
      · have hd := size_of_all hall hrf hne
        subst hd
        refine ⟨cs.take (m * d), rfE_take m hrf, fun w => by simp [Builtin.lenOf], ?_⟩
        have hl : (cs.take (m * d)).length = m * d := by
          rw [List.length_take, rfE_len hrf, Nat.mul_comm d]
          exact Nat.min_eq_left (Nat.mul_le_mul_right _ hml)
        exact run_firstCells_some (P := P) w d m ⟨b, o, none⟩ ys.length n (cs.take (m * d)) hl (fun j v hv => by
          rw [Addr.add_mid]
          refine hme j v ?_
          rw [List.getElem?_take] at hv
          split at hv
          · exact hv
          · cases hv)
  · rename_i he
    split at hm
    · rename_i l
      cases hm
      obtain rfl := str_of hy
      have hsz : (⟨l.toArray⟩ : ByteArray).size = l.length := by show l.toArray.size = _; simp
      have hcs : ∀ (l : List UInt8), RfE w F 1 (ofBytes l) (l.map fun b => Value.int .u8 b.toNat) := by
        intro l
        induction l with
        | nil => simp [ofBytes, RfE]
        | cons c l ih => exact ⟨[.int .u8 c.toNat], _, rfl, rfl, by simp [Rf], ih⟩
      have htk : (ofBytes l).take m = ofBytes (l.take m) := by simp [ofBytes, List.map_take]
      have he1 : RfE w F es (ofBytes (l.take m)) ((l.take m).map fun b => Value.int .u8 b.toNat) := by
        by_cases hne : ofBytes (l.take m) = []
        · have : l.take m = [] := by simpa only [ofBytes, List.map_eq_nil_iff] using hne
          rw [this]
          simp [ofBytes, RfE]
        · have hne' : ofBytes l ≠ [] := by
            intro e
            have : l = [] := by simpa [ofBytes] using e
            subst this
            simp [ofBytes] at hne
          have := size_of_all hall (hcs l) hne'
          rw [← this]; exact hcs _
      refine ⟨_, by rw [htk]; exact he1, fun w => by simp [Builtin.lenOf, hsz, ofBytes], ?_⟩
      have hex : (⟨l.toArray⟩ : ByteArray).extract 0 m = ⟨(l.take m).toArray⟩ := by
        apply ByteArray.ext
        simp [ByteArray.data_extract]
      simp [Builtin.firstCells, hex]
    · cases hm
  · cases hm
theorem rfE_splice {d : Nat} {xs ys : List X} {cs news : List Value} {lo : Nat} (h : RfE w F d xs cs) (hy : RfE w F d ys news) : RfE w F d (splice xs lo ys) (cs.take (lo * d) ++ (news ++ cs.drop ((lo + ys.length) * d))) := by
  have h1 := rfE_take lo h
  have h2 := rfE_sub (lo + ys.length) (max (lo + ys.length) xs.length) h
  rw [List.take_of_length_le (by omega), List.take_of_length_le (by rw [rfE_len h, Nat.mul_comm d]; exact Nat.mul_le_mul_right _ (by omega))] at h2
  exact rfE_append h1 (rfE_append hy h2)
theorem copyIn_ok (hT : TOk P T) (h : Inv w0 F0 Pb F A S tm w) {c : Call} {y z : Operand} (hop : o.op = .call c) (hcal : c.callee = .builtin .copy) (hargs : c.args = #[y, z]) {t0 t1 e : Nat} {ti ei : TI} (ht : T t0 = some ti) (htd : ti.td = .sl e) (he : T e = some ei) (h0 : c.argTypes[0]? = some t0) (ht1 : c.argTypes[1]? = some t1)
    {ys : List X} (hm : moreX S.r (tdOf T t1) (S.ev z) = some ys) (hz : Rv w F A (S.ev z) (a.eval z)) {g lo len : Nat} {ra : RA} (hA : A g = some ra) {ad : Option Addr} {cap : Nat} (hy : a.eval y = .slice ad len cap) (hcap : len ≤ cap) (hroom : lo + cap ≤ ra.cap) (had : cap = 0 ∨ ad = some ⟨ra.b, ra.o + lo * ra.d, none⟩) {S' : St}
    (hs : copyIn S g lo len ei.size ys = some (x, S')) : EOk P w0 F0 Pb S' tm w o a x := by
  unfold copyIn at hs
  split at hs
  · rename_i d cx hg
    split at hs
    · rename_i hh
      obtain ⟨rfl, hlen, hall⟩ := hh
      cases hs
      obtain ⟨i, dd, hi, hu0, hsz, _, hdesc, _⟩ := desc_ok hT ht
      rw [htd] at hdesc
      simp only [descOk] at hdesc
      subst hdesc
      obtain ⟨ie, _, hie, _, hsi, _⟩ := desc_ok hT he
      obtain ⟨news, hnews, hlen0, hf⟩ := more_take hT h hm hall hz (min len ys.length) (Nat.min_le_right _ _)
      have hmin : Nat.min ys.length len = min len ys.length := Nat.min_comm _ _
      have htk : ys.take (min len ys.length) = ys.take len := by
        rw [List.take_eq_take_iff]; omega
      rw [htk] at hnews
      have hln : (ys.take len).length = min len ys.length := by simp
      have hlnews : news.length = min len ys.length * ei.size := by rw [rfE_len hnews, hln, Nat.mul_comm]
      obtain ⟨pc, hpc, hd, hn, hcp, hown⟩ := h.places.ar hg hA
      have hlpc : pc.length = cx.length * ei.size := by rw [rfE_len hpc, Nat.mul_comm]
      have hexec : execOp a.eval o = (do pure (.value (← Builtin.copy_ c.argTypes o.type #[.slice ad len cap, a.eval z])) : Sem Next) := by
        simp [execOp, hop, resolve, hcal, invoke, builtin, hargs, hy]
      intro next Q K
      unfold Oper.wp
      rw [hexec]
      by_cases hn0 : min len ys.length = 0
      · -- nothing goes over
        have hnn : news = [] := List.eq_nil_of_length_eq_zero (by rw [hlnews, hn0]; simp)
        subst hnn
        have hr : (Builtin.copy_ c.argTypes o.type #[.slice ad len cap, a.eval z]).run P w = .ok (goInt 0) w := by
          rw [hn0] at hf
          cases ad <;> simp [Builtin.copy_, h0, run_underlying hu0, hlen0, hmin, hn0, sizeOf, typeInfo, hie, hsi, hf, storeCells]
        rw [run_v' hr]
        have hyt : ys.take len = [] := List.eq_nil_of_length_eq_zero (by rw [hln, hn0])
        have hsp : splice cx lo (ys.take len) = cx := by rw [hyt]; simp [splice]
        have hup : upd S.r g (some (X.ar ei.size cx)) = S.r := by
          funext k
          unfold upd
          split
          · rename_i ek; rw [ek, hg]
          · rfl
        refine K _ w F A ?_ (by rw [hn0]; exact int_ok _ _)
        rw [hsp, hup]
        exact h
      · have hcap0 : cap ≠ 0 := by omega
        rcases had with had | rfl
        · exact absurd had hcap0
        · have hracap : 0 < ra.cap := by omega
          have hfit : (lo + min len ys.length) * ei.size ≤ pc.length := by rw [hlpc]; exact Nat.mul_le_mul_right _ (by omega)
          have hsplit : pc = pc.take (lo * ei.size) ++ ((pc.drop (lo * ei.size)).take news.length ++ pc.drop ((lo + min len ys.length) * ei.size)) := by
            have e1 : (lo + min len ys.length) * ei.size = lo * ei.size + news.length := by rw [hlnews, Nat.add_mul]
            rw [e1, ← List.drop_drop, List.take_append_drop, List.take_append_drop]
          have hl1 : (pc.take (lo * ei.size)).length = lo * ei.size := by
            rw [List.length_take]
            refine Nat.min_eq_left (Nat.le_trans (Nat.mul_le_mul_right _ (by omega)) hfit)
          have hl2 : news.length = ((pc.drop (lo * ei.size)).take news.length).length := by
            rw [List.length_take, List.length_drop]
            rw [Nat.add_mul, ← hlnews] at hfit
            omega
          have hcc : (0 < ra.cap → Own w ra.b ra.o pc (ra.cap * ra.d)) := hown
          have hrfe := rfE_splice (lo := lo) hpc hnews
          rw [hln] at hrfe
          have hspl : (splice cx lo (ys.take len)).length = cx.length := by
            simp only [splice, List.length_append, List.length_take, List.length_drop]
            omega
          obtain ⟨ra', cs', hA', hok⟩ := h.rv g _ hg
          rw [hA] at hA'; cases hA'
          have hok' : RootOk w F A ra (.ar ei.size cx) (pc.take (lo * ei.size) ++ ((pc.drop (lo * ei.size)).take news.length ++ pc.drop ((lo + min len ys.length) * ei.size))) := by
            rw [← hsplit]
            exact ⟨by simpa only [Rc, Rf] using hpc, hcp, ⟨hd, hn⟩, hown⟩
          have hI := h.store hg hA hracap (c' := .ar ei.size (splice cx lo (ys.take len))) hl2 hok' (by simpa only [Rc, Rf] using hrfe) (by simp only [X.arD, hspl]) (by simp only [X.size, hspl])
          rw [hl1] at hI
          have hth := (hown hracap).there
          have hin : ∀ j, j < news.length → lo * ei.size + j < ra.cap * ra.d := by
            intro j hj
            rw [hd]
            have h1 : (lo + min len ys.length) * ei.size ≤ ra.cap * ei.size := Nat.mul_le_mul_right _ (by omega)
            rw [Nat.add_mul, ← hlnews] at h1
            omega
          have hst : (storeCells ⟨ra.b, ra.o + lo * ei.size, none⟩ news).run P w = .ok () (w.setCells ra.b (ra.o + lo * ei.size) news) := by
            have := run_storeCells_cells (P := P) ra.b (ra.o + lo * ei.size) news 0 w (fun j hj => by
              have := (hth (lo * ei.size + j) (hin j hj)).1
              rwa [show ra.o + (lo * ei.size + j) = ra.o + lo * ei.size + 0 + j by omega] at this) (fun j hj => by
              have := (hth (lo * ei.size + j) (hin j hj)).2
              rwa [show ra.o + (lo * ei.size + j) = ra.o + lo * ei.size + 0 + j by omega] at this) (rfE_cell hnews)
            simpa using this
          have hr : (Builtin.copy_ c.argTypes o.type #[.slice (some ⟨ra.b, ra.o + lo * ra.d, none⟩) len cap, a.eval z]).run P w = .ok (goInt ((min len ys.length : Nat) : Int)) (w.setCells ra.b (ra.o + lo * ei.size) news) := by
            rw [hd]
            simp [Builtin.copy_, h0, run_underlying hu0, hlen0, hmin, sizeOf, typeInfo, hie, hsi, hf, hst]
          rw [run_v' hr]
          exact K _ _ F A hI (int_ok _ _)
    · cases hs
  · cases hs
theorem copyX_ok (hT : TOk P T) (h : Inv w0 F0 Pb F A S tm w) (hev : ∀ x, Rv w F A (S.ev x) (a.eval x)) {c : Call} {y z : Operand} (hop : o.op = .call c) (hcal : c.callee = .builtin .copy) (hargs : c.args = #[y, z]) {S' : St}
    (hs : copyX T S c.argTypes (S.ev y) (S.ev z) = some (x, S')) : EOk P w0 F0 Pb S' tm w o a x := by
  have hy := hev y
  unfold copyX at hs
  split at hs
  · rename_i e _ _ _ ht0
    obtain ⟨t0, h0, ht⟩ := Option.bind_eq_some_iff.1 ht0
    split at hs
    · rename_i ei ys he hm
      cases ht1 : c.argTypes[1]? with
      | none => rw [ht1] at hm; simp [moreX] at hm
      | some t1 =>
        rw [ht1] at hm
        simp only [Option.bind_some] at hm
        split at hs
        · rename_i g hex
          rw [hex] at hy
          obtain ⟨ra, ad, c', hA, hyv, g1, g2, g3⟩ := hw_of hy
          split at hs
          · rename_i d cx hg
            obtain ⟨pc, hpc, hd, hn, hcap, hown⟩ := h.places.ar hg hA
            rw [hn] at hyv g1
            exact copyIn_ok hT h hop hcal hargs ht rfl he h0 ht1 hm (hev z) hA hyv g1 (by omega) (by simpa using g3) hs
          · cases hs
        · rename_i g lo len fl hex
          rw [hex] at hy
          obtain ⟨ra, ad, c', hA, hyv, g1, g2, g4, g5, g3⟩ := hd_of hy
          exact copyIn_ok hT h hop hcal hargs ht rfl he h0 ht1 hm (hev z) hA hyv g1 g2 g3 hs
        · cases hs
    · cases hs
  · cases hs
theorem wipeIn_ok (hT : TOk P T) (h : Inv w0 F0 Pb F A S tm w) {c : Call} {y : Operand} (hop : o.op = .call c) (hcal : c.callee = .builtin .clear) (hargs : c.args = #[y]) {t0 e : Nat} {ti ei : TI} (ht : T t0 = some ti) (htd : ti.td = .sl e) (he : T e = some ei) (h0 : c.argTypes[0]? = some t0)
    {g lo len : Nat} {ra : RA} (hA : A g = some ra) {ad : Option Addr} {cap : Nat} (hy : a.eval y = .slice ad len cap) (hcap : len ≤ cap) (hroom : lo + cap ≤ ra.cap) (had : cap = 0 ∨ ad = some ⟨ra.b, ra.o + lo * ra.d, none⟩) {S' : St}
    (hs : wipeIn S g lo len ei.size ei.zero.wk = some (x, S')) : EOk P w0 F0 Pb S' tm w o a x := by
  unfold wipeIn at hs
  split at hs
  · rename_i d cx hg
    split at hs
    · rename_i hh
      obtain ⟨rfl, hlen, hes⟩ := hh
      cases hs
      obtain ⟨i, dd, hi, hu0, hsz, _, hdesc, _⟩ := desc_ok hT ht
      rw [htd] at hdesc
      simp only [descOk] at hdesc
      subst hdesc
      obtain ⟨ie, z, cs, hie, hz, hzv, hzc, hrf⟩ := zero_ok w F A hT he
      have hfit := (hT e ei he).fit
      simp only [fits, Bool.and_eq_true, beq_iff_eq] at hfit
      have hzl : cs.length = ei.size := by rw [← hfit.1.1]; exact rf_len (hrf w F)
      have hrep := rfE_replicate (rf_wk (hrf w F)) len
      rw [hzl] at hrep
      have hzs : z.cells.size = ei.size := by rw [← Array.length_toList, hzc, hzl]
      have hcells : (Builtin.zeroCells z.cells len).toList = (List.replicate len cs).flatten := by
        have := made_cells (z := z.cells) (by omega) len
        unfold Builtin.zeroCells
        rw [this, hzc]
      generalize hnw : (List.replicate len cs).flatten = news at *
      have hlnews : news.length = len * ei.size := by rw [rfE_len hrep, List.length_replicate, Nat.mul_comm]
      obtain ⟨pc, hpc, hd, hn, hcp, hown⟩ := h.places.ar hg hA
      have hlpc : pc.length = cx.length * ei.size := by rw [rfE_len hpc, Nat.mul_comm]
      have hexec : execOp a.eval o = (do pure (.value (← Builtin.clear_ c.argTypes o.type #[.slice ad len cap])) : Sem Next) := by
        simp [execOp, hop, resolve, hcal, invoke, builtin, hargs, hy]
      have hvt : Rv w F A (.tup []) (.tuple #[]) := ⟨[], rfl, by simp [RvL]⟩
      intro next Q K
      unfold Oper.wp
      rw [hexec]
      by_cases hn0 : len = 0
      · subst hn0
        have hr : (Builtin.clear_ c.argTypes o.type #[.slice ad 0 cap]).run P w = .ok (.tuple #[]) w := by
          cases ad <;> simp [Builtin.clear_, h0, run_underlying hu0]
        rw [run_v' hr]
        have hsp : splice cx lo (List.replicate 0 ei.zero.wk) = cx := by simp [splice]
        have hup : upd S.r g (some (X.ar ei.size cx)) = S.r := by
          funext k
          unfold upd
          split
          · rename_i ek; rw [ek, hg]
          · rfl
        refine K _ w F A ?_ hvt
        rw [hsp, hup]
        exact h
      · have hcap0 : cap ≠ 0 := by omega
        rcases had with had | rfl
        · exact absurd had hcap0
        · have hracap : 0 < ra.cap := by omega
          have hfit2 : (lo + len) * ei.size ≤ pc.length := by rw [hlpc]; exact Nat.mul_le_mul_right _ (by omega)
          have hsplit : pc = pc.take (lo * ei.size) ++ ((pc.drop (lo * ei.size)).take news.length ++ pc.drop ((lo + len) * ei.size)) := by
            have e1 : (lo + len) * ei.size = lo * ei.size + news.length := by rw [hlnews, Nat.add_mul]
            rw [e1, ← List.drop_drop, List.take_append_drop, List.take_append_drop]
          have hl1 : (pc.take (lo * ei.size)).length = lo * ei.size := by
            rw [List.length_take]
            refine Nat.min_eq_left (Nat.le_trans (Nat.mul_le_mul_right _ (by omega)) hfit2)
          have hl2 : news.length = ((pc.drop (lo * ei.size)).take news.length).length := by
            rw [List.length_take, List.length_drop]
            rw [Nat.add_mul, ← hlnews] at hfit2
            omega
          have hrfe := rfE_splice (lo := lo) hpc hrep
          rw [List.length_replicate] at hrfe
          have hspl : (splice cx lo (List.replicate len ei.zero.wk)).length = cx.length := by
            simp only [splice, List.length_append, List.length_take, List.length_drop, List.length_replicate]
            omega
          obtain ⟨ra', cs', hA', hok⟩ := h.rv g _ hg
          rw [hA] at hA'; cases hA'
          have hok' : RootOk w F A ra (.ar ei.size cx) (pc.take (lo * ei.size) ++ ((pc.drop (lo * ei.size)).take news.length ++ pc.drop ((lo + len) * ei.size))) := by
            rw [← hsplit]
            exact ⟨by simpa only [Rc, Rf] using hpc, hcp, ⟨hd, hn⟩, hown⟩
          have hI := h.store hg hA hracap (c' := .ar ei.size (splice cx lo (List.replicate len ei.zero.wk))) hl2 hok' (by simpa only [Rc, Rf] using hrfe) (by simp only [X.arD, hspl]) (by simp only [X.size, hspl])
          rw [hl1] at hI
          have hth := (hown hracap).there
          have hin : ∀ j, j < news.length → lo * ei.size + j < ra.cap * ra.d := by
            intro j hj
            rw [hd]
            have h1 : (lo + len) * ei.size ≤ ra.cap * ei.size := Nat.mul_le_mul_right _ (by omega)
            rw [Nat.add_mul, ← hlnews] at h1
            omega
          have hst : (storeCells ⟨ra.b, ra.o + lo * ei.size, none⟩ news).run P w = .ok () (w.setCells ra.b (ra.o + lo * ei.size) news) := by
            have := run_storeCells_cells (P := P) ra.b (ra.o + lo * ei.size) news 0 w (fun j hj => by
              have := (hth (lo * ei.size + j) (hin j hj)).1
              rwa [show ra.o + (lo * ei.size + j) = ra.o + lo * ei.size + 0 + j by omega] at this) (fun j hj => by
              have := (hth (lo * ei.size + j) (hin j hj)).2
              rwa [show ra.o + (lo * ei.size + j) = ra.o + lo * ei.size + 0 + j by omega] at this) (rfE_cell hrep)
            simpa using this
          have hr : (Builtin.clear_ c.argTypes o.type #[.slice (some ⟨ra.b, ra.o + lo * ra.d, none⟩) len cap]).run P w = .ok (.tuple #[]) (w.setCells ra.b (ra.o + lo * ei.size) news) := by
            rw [hd]
            simp [Builtin.clear_, h0, run_underlying hu0, hn0, zeroValue, typeInfo, hie, hz, hcells, hst]
          rw [run_v' hr]
          exact K _ _ F A hI ⟨[], rfl, by simp [RvL]⟩
    · cases hs
  · cases hs
theorem wipeX_ok (hT : TOk P T) (h : Inv w0 F0 Pb F A S tm w) (hev : ∀ x, Rv w F A (S.ev x) (a.eval x)) {c : Call} {y : Operand} (hop : o.op = .call c) (hcal : c.callee = .builtin .clear) (hargs : c.args = #[y]) {S' : St}
    (hs : wipeX T S c.argTypes (S.ev y) = some (x, S')) : EOk P w0 F0 Pb S' tm w o a x := by
  have hy := hev y
  unfold wipeX at hs
  split at hs
  · rename_i e _ _ _ ht0
    obtain ⟨t0, h0, ht⟩ := Option.bind_eq_some_iff.1 ht0
    split at hs
    · rename_i ei he
      split at hs
      · rename_i g hex
        rw [hex] at hy
        obtain ⟨ra, ad, c', hA, hyv, g1, g2, g3⟩ := hw_of hy
        split at hs
        · rename_i d cx hg
          obtain ⟨pc, hpc, hd, hn, hcap, hown⟩ := h.places.ar hg hA
          rw [hn] at hyv g1
          exact wipeIn_ok hT h hop hcal hargs ht rfl he h0 hA hyv g1 (by omega) (by simpa using g3) hs
        · cases hs
      · rename_i g lo len fl hex
        rw [hex] at hy
        obtain ⟨ra, ad, c', hA, hyv, g1, g2, g4, g5, g3⟩ := hd_of hy
        exact wipeIn_ok hT h hop hcal hargs ht rfl he h0 hA hyv g1 g2 g3 hs
      · cases hs
    · cases hs
  · cases hs
end
end Go.EV
