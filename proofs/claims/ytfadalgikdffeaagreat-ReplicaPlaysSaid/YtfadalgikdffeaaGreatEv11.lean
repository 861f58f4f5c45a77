/- Operations that make a new place. -/
import Derived.Test.YtfadalgikdffeaaGreatEv10
import Derived.Laws.MakeOwn
import Derived.Laws.IdiomStrings
set_option linter.unusedVariables false
set_option linter.unusedSimpArgs false
namespace Go.EV
open Go.RowKit
section
variable {P : Program} {T : TT} {w0 : World} {F0 F : Nat → Prop} {Pb : PB} {A : Nat → Option RA} {S : St} {tm : Nat → Value} {w : World}
theorem Inv.freezeL : ∀ {gs : List Nat} {S S1 : St} {F : Nat → Prop} {A : Nat → Option RA}, Inv w0 F0 Pb F A S tm w → freezeL S gs = some S1 →
    ∃ F1 A1, Inv w0 F0 Pb F1 A1 S1 tm w ∧ (∀ b, F b → F1 b) ∧ (∀ g ∈ gs, ∀ ra, A g = some ra → 0 < ra.cap → F1 ra.b) ∧ (∀ k rb, A1 k = some rb → A k = some rb)
  | [], S, S1, F, A, h, hf => by
    simp only [EV.freezeL, Option.some.injEq] at hf
    subst hf
    exact ⟨F, A, h, fun _ h => h, by simp, fun _ _ h => h⟩
  | g :: gs, S, S1, F, A, h, hf => by
    simp only [EV.freezeL] at hf
    split at hf
    · rename_i hg
      obtain ⟨F1, A1, h1, h2, h3, h4⟩ := Inv.freezeL h hf
      refine ⟨F1, A1, h1, h2, fun k hk ra hA hc => ?_, h4⟩
      rcases List.mem_cons.1 hk with rfl | hk
      · obtain ⟨x, hx⟩ := h.lv _ _ hA
        rw [hg] at hx; cases hx
      · exact h3 k hk ra hA hc
    · split at hf
      · rename_i S' hS'
        obtain ⟨ra, hA, h'⟩ := h.freeze hS'
        obtain ⟨F1, A1, h1, h2, h3, h4⟩ := Inv.freezeL h' hf
        refine ⟨F1, A1, h1, fun b hb => h2 b (.inl hb), fun k hk rb hA' hc => ?_, fun k rb hk => by have := h4 k rb hk; unfold gone at this; split at this; cases this; exact this⟩
        by_cases e : k = g
        · subst e
          rw [hA] at hA'; cases hA'
          exact h2 _ (.inr ⟨hc, rfl⟩)
        · rcases List.mem_cons.1 hk with rfl | hk
          · exact absurd rfl e
          · exact h3 k hk rb (by simp [gone, e, hA']) hc
      · cases hf
theorem below_push (w : World) (o : Obj) : Below w.heap.size w { w with heap := w.heap.push o } :=
  ⟨rfl, rfl, rfl, by simp, fun k hk => by simp [Array.getElem?_push]; intro h; omega⟩
/-- A new place in a block that the world has just got. -/
theorem Inv.new (h : Inv w0 F0 Pb F A S tm w) {w' : World} (hb : Below w.heap.size w w') {all : Array Value} {e : TypeId} {fz : Nat × Nat} (hobj : w'.heap[w.heap.size]? = some (.cells all e fz)) (hfz : ∀ j, fz.1 ≤ j → j < fz.2 → all.size ≤ j)
    {g : Nat} (hg : S.r g = none) {ra : RA} (hrb : ra.b = w.heap.size) {x : X} {c : List Value} (hrc : Rc w F A x c) (hc : ∀ (j : Nat) u, c[j]? = some u → all[ra.o + j]? = some u) (hn : ra.n ≤ ra.cap) (hd : dimOk ra x) (hs : ra.o + ra.cap * ra.d ≤ all.size) (hp : nlim ≤ g → Pb.pin g ra) :
    Inv w0 F0 Pb F (upd A g (some ra)) { S with r := upd S.r g (some x) } tm w' := by
  have hAg : A g = none := by
    cases hA : A g with
    | none => rfl
    | some rb => obtain ⟨y, hy⟩ := h.lv g rb hA; rw [hg] at hy; cases hy
  have hsub : ASub A (upd A g (some ra)) := fun k rb hk => by
    unfold upd
    by_cases e : k = g
    · subst e; rw [hAg] at hk; cases hk
    · simpa [e] using hk
  have hlt : w.heap.size < w'.heap.size := (Array.getElem?_eq_some_iff.1 hobj).1
  refine (h.grow hb).add hg ⟨rc_mono (fun _ h => h) (h.keeps hb) hsub hrc, hn, hd, fun _ => ?_⟩ (fun hc => ⟨by rw [hrb]; exact hlt, fun hl => ?_, fun hf => ?_, fun k rb hk hc' => ?_⟩) hp
  · rw [hrb]; exact ⟨all, e, fz, hobj, hc, hs, hfz⟩
  · exfalso; have := h.size; omega
  · have := (h.fo _ hf).1; omega
  · have := (h.nw k rb hk hc').1
    omega
def raOf (b o : Nat) (x : X) : RA := match x.arD with | some (d, n) => ⟨b, o, n, d, n⟩ | none => ⟨b, o, 1, x.size, 0⟩
theorem raOf_b (b o : Nat) (x : X) : (raOf b o x).b = b := by unfold raOf; split <;> rfl
theorem raOf_o (b o : Nat) (x : X) : (raOf b o x).o = o := by unfold raOf; split <;> rfl
theorem raOf_n (b o : Nat) (x : X) : (raOf b o x).n ≤ (raOf b o x).cap := by unfold raOf; split <;> simp
theorem raOf_dim (b o : Nat) (x : X) : dimOk (raOf b o x) x := by cases x <;> simp [raOf, X.arD, dimOk]
theorem raOf_size (b o : Nat) (x : X) : (raOf b o x).cap * (raOf b o x).d = x.size := by
  cases x <;> simp [raOf, X.arD, X.size, Nat.mul_comm]
theorem raOf_cap (b o : Nat) (x : X) (h : 0 < x.size) : 0 < (raOf b o x).cap := by
  cases x <;> simp [raOf, X.arD]
  rename_i d xs
  simp [X.size] at h
  exact Nat.pos_of_mul_pos_left h |> fun h => by omega
theorem add1 {S1 : St} {r' : Nat → Option X} {lim dst : Nat} {c : X} (h : addR lim S1.r [(dst, c)] = some r') : S1.r dst = none ∧ dst < lim ∧ r' = upd S1.r dst (some c) := by
  simp only [addR] at h
  split at h
  · rename_i hn
    cases h
    exact ⟨(freeN_none hn).1, (freeN_none hn).2, rfl⟩
  · cases h
variable {call : FuncId → List X → Option (X × List X)} {an : FuncId → An} {dst : Nat} {a : Act} {o : Oper} {x : X} {news : List (Nat × X)} {fl : List Nat}
/-- A variable in memory. -/
theorem var_ok (h : Inv w0 F0 Pb F A S tm w) {y : X} {v : Value} (hy : R1 w F A y v) (hsz : 0 < y.size) {t : Nat} (hrun : (execOp a.eval o).run P w = .ok (.value (.pointer (some ⟨w.heap.size, 0, none⟩))) { w with heap := w.heap.push (.cells v.cells t) }) :
    QOk P w0 F0 Pb S tm w o a (.pt dst 0 []) [(dst, y)] [] := by
  intro S1 r' h1 h2 next Q K
  simp only [EV.freezeL, Option.some.injEq] at h1
  subst h1
  obtain ⟨hg, hgl, rfl⟩ := add1 h2
  unfold Oper.wp
  rw [hrun]
  have hc := hy.cells
  have hlen := rc_len hc
  have hI := h.new (below_push w (.cells v.cells t)) (all := v.cells) (e := t) (fz := (0, 0)) (by simp) (by simp) hg (ra := raOf w.heap.size 0 y) (raOf_b _ _ _) hc (by rw [raOf_o]; simp) (raOf_n _ _ _) (raOf_dim _ _ _) (by rw [raOf_o, raOf_size, ← hlen]; simp) (nl hgl)
  refine K _ _ _ _ hI ?_
  have := pt_ok (w := { w with heap := w.heap.push (.cells v.cells t) }) (F := F) (off := 0) (p := []) (A := upd A dst (some (raOf w.heap.size 0 y))) (g := dst) (ra := raOf w.heap.size 0 y) (by simp [upd]) (raOf_cap _ _ _ hsz)
  rw [raOf_b, raOf_o] at this
  exact this
theorem made_list (zc : List Value) (hd : 0 < zc.length) : ∀ n, (List.range (n * zc.length)).map (fun j => zc[j % zc.length]!) = (List.replicate n zc).flatten
  | 0 => by simp
  | n + 1 => by
    rw [Nat.add_mul, List.range_add, List.map_append, made_list zc hd n, List.replicate_succ', List.flatten_append]
    congr 1
    simp only [Nat.one_mul, List.map_map, List.flatten_singleton]
    apply List.ext_getElem
    · simp
    · intro i h1 h2
      simp at h1
      simp [Nat.add_mod, Nat.mod_eq_of_lt h1, h1]
theorem rfE_replicate {y : X} {zc : List Value} (hy : Rf w F y zc) : ∀ n, RfE w F zc.length (List.replicate n y) (List.replicate n zc).flatten
  | 0 => by simp [RfE]
  | n + 1 => by
    simp only [List.replicate_succ, RfE, List.flatten_cons]
    exact ⟨zc, _, rfl, rfl, hy, rfE_replicate hy n⟩
theorem made_cells {z : Array Value} (hd : 0 < z.size) (n : Nat) : ((Array.range (n * z.size)).map (z[· % z.size]!)).toList = (List.replicate n z.toList).flatten := by
  have := made_list z.toList (by simpa using hd) n
  simp only [Array.length_toList] at this
  rw [← this]
  simp
  intro j _
  rw [getElem!_def]
  cases z[j % z.size]? <;> rfl
theorem rfE_take {d : Nat} {xs : List X} {cs : List Value} (b : Nat) (h : RfE w F d xs cs) : RfE w F d (xs.take b) (cs.take (b * d)) := by
  simpa using rfE_sub 0 b h
/-- An array of its own. -/
theorem row_ok (h : Inv w0 F0 Pb F A S tm w) {S1 : St} {F1 : Nat → Prop} {A1 : Nat → Option RA} (h1 : Inv w0 F0 Pb F1 A1 S1 tm w) {r' : Nat → Option X} {d : Nat} {ys : List X} (h2 : addR nlim S1.r [(dst, .ar d ys)] = some r') {w' : World} (hb : Below w.heap.size w w') {all : Array Value} {e : TypeId} {fz : Nat × Nat}
    (hobj : w'.heap[w.heap.size]? = some (.cells all e fz)) (hfz : ∀ j, fz.1 ≤ j → j < fz.2 → all.size ≤ j) {cap : Nat} (hcap : ys.length ≤ cap) {c : List Value} (hrf : RfE w F1 d ys c) (hc : ∀ (j : Nat) u, c[j]? = some u → all[j]? = some u) (hs : cap * d ≤ all.size) :
    ∃ A', Inv w0 F0 Pb F1 A' { S1 with r := r' } tm w' ∧ Rv w' F1 A' (.hw dst) (.slice (some ⟨w.heap.size, 0, none⟩) ys.length cap) := by
  obtain ⟨hg, hgl, rfl⟩ := add1 h2
  have hI := h1.new hb hobj hfz hg (ra := ⟨w.heap.size, 0, cap, d, ys.length⟩) rfl (x := .ar d ys) (c := c) (by simpa only [Rc, Rf] using hrf) (by simpa using hc) hcap ⟨rfl, rfl⟩ (by simpa using hs) (nl hgl)
  exact ⟨_, hI, hw_ok (ra := ⟨w.heap.size, 0, cap, d, ys.length⟩) (by simp [upd]) hcap (Nat.le_refl _) (.inr rfl)⟩
inductive All2 {α β : Type} (R : α → β → Prop) : List α → List β → Prop
  | nil : All2 R [] []
  | cons {x y xs ys} : R x y → All2 R xs ys → All2 R (x :: xs) (y :: ys)
theorem frzL_vals {r : Nat → Option X} (hr : Places w F A r) {F' : Nat → Prop} (hF : ∀ b, F b → F' b) : ∀ {xs ys : List X} {vs : List Value}, frzL r xs = some ys → (∀ g ∈ refsL xs, ∀ ra, A g = some ra → 0 < ra.cap → F' ra.b) →
    All2 (fun x v => Rv w F A x v) xs vs → All2 (fun y v => ∃ cs, Rf w F' y cs ∧ v = val y cs) ys vs
  | [], ys, vs, h, hg, hv => by
    simp only [frzL, Option.some.injEq] at h
    subst h
    cases hv
    exact .nil
  | x :: xs, ys, vs, h, hg, hv => by
    simp only [frzL] at h
    split at h
    · rename_i y ys' h1 h2
      cases h
      cases hv with
      | cons hx hxs =>
        rename_i v vs
        refine .cons ?_ (frzL_vals hr hF h2 (fun g hg' => hg g (by simp [refsL, hg'])) hxs)
        have hnb : x.isBot = false ∧ x.isTup = false := by cases x <;> simp_all [frz, X.isBot, X.isTup]
        obtain ⟨cs, hc, rfl⟩ := Rv.one hx hnb.1 hnb.2
        refine ⟨cs, frz_ok hr hF h1 (fun g hg' => hg g (by simp [refsL, hg'])) hc, ?_⟩
        have : y.agg = x.agg := by
          cases x with
          | ag xs => simp only [frz] at h1; obtain ⟨_, _, rfl⟩ := Option.map_eq_some_iff.1 h1; rfl
          | hw g => simp only [frz] at h1; split at h1 <;> cases h1; rfl
          | hd g lo len f => simp only [frz] at h1; split at h1 <;> cases h1; rfl
          | pt g o p => simp only [frz] at h1; obtain ⟨_, _, _, _, _, rfl⟩ := ptF_some h1; rfl
          | _ => simp only [frz, Option.some.injEq] at h1 <;> first | (subst h1; rfl) | (cases h1; done)
        simp [val, this]
    · cases h

mutual
theorem frz_fz {r : Nat → Option X} : ∀ {x y : X}, frz r x = some y → y.fz = true
  | .ag xs, y, h => by
    simp only [frz] at h
    obtain ⟨ys, hys, rfl⟩ := Option.map_eq_some_iff.1 h
    simpa [X.fz] using frzL_fz hys
  | .hw g, y, h => by simp only [frz] at h; split at h <;> cases h; rfl
  | .hd g lo len f, y, h => by simp only [frz] at h; split at h <;> cases h; rfl
  | .b v, y, h | .i k n, y, h | .s l, y, h | .ar d xs, y, h | .sl f xs, y, h | .np, y, h | .pf x, y, h | .nm, y, h | .nf, y, h => by
    simp only [frz, Option.some.injEq] at h
    subst h
    rfl
  | .pt g o p, y, h => by simp only [frz] at h; obtain ⟨_, _, _, _, _, rfl⟩ := ptF_some h; rfl
  | .bot, y, h | .tup _, y, h | .fn _ _, y, h | .ow _ _, y, h | .ob _, y, h => by simp [frz] at h
theorem frzL_fz {r : Nat → Option X} : ∀ {xs ys : List X}, frzL r xs = some ys → fzL ys = true
  | [], ys, h => by simp only [frzL, Option.some.injEq] at h; subst h; rfl
  | x :: xs, ys, h => by
    simp only [frzL] at h
    split at h
    · rename_i y ys' h1 h2
      cases h
      simp [fzL, frz_fz h1, frzL_fz h2]
    · cases h
end
theorem all2_wk : ∀ {ys : List X} {vs : List Value}, All2 (fun y v => ∃ cs, Rf w F y cs ∧ v = val y cs) ys vs → All2 (fun y v => ∃ cs, Rf w F y cs ∧ v = val y cs) (wkL ys) vs
  | _, _, .nil => .nil
  | _, _, .cons ⟨cs, h1, h2⟩ hs => .cons ⟨cs, rf_wk h1, by rw [wk_val]; exact h2⟩ (all2_wk hs)
theorem frwL_vals {r : Nat → Option X} (hr : Places w F A r) {F' : Nat → Prop} (hF : ∀ b, F b → F' b) {xs ys : List X} {vs : List Value} (h : frwL r xs = some ys) (hg : ∀ g ∈ refsL xs, ∀ ra, A g = some ra → 0 < ra.cap → F' ra.b) (hv : All2 (fun x v => Rv w F A x v) xs vs) : All2 (fun y v => ∃ cs, Rf w F' y cs ∧ v = val y cs) ys vs := by
  obtain ⟨zs, hz, rfl⟩ := Option.map_eq_some_iff.1 h
  exact all2_wk (frzL_vals hr hF hz hg hv)
theorem frwL_fz {r : Nat → Option X} {xs ys : List X} (h : frwL r xs = some ys) : fzL ys = true := by
  obtain ⟨zs, hz, rfl⟩ := Option.map_eq_some_iff.1 h
  rw [wkL_fz]; exact frzL_fz hz
theorem fzL_mem : ∀ {ys : List X}, fzL ys = true → ∀ y ∈ ys, y.fz = true
  | [], _, y, hy => by simp at hy
  | x :: xs, h, y, hy => by
    simp only [fzL, Bool.and_eq_true] at h
    rcases List.mem_cons.1 hy with rfl | hy
    · exact h.1
    · exact fzL_mem h.2 y hy
theorem prel_of : ∀ {ks : List Nat} {ys : List X} {vs : List Value}, ks.length = vs.length → All2 (fun y v => ∃ cs, Rf w F y cs ∧ v = val y cs) ys vs → PRel w F A (ks.zip ys) (ks.zip vs)
  | [], ys, vs, hl, h => by simp [PRel]
  | k :: ks, ys, vs, hl, h => by
    cases h with
    | nil => simp at hl
    | cons hy hys =>
      obtain ⟨cs, hc, hv⟩ := hy
      simp only [List.zip_cons_cons, PRel]
      exact ⟨trivial, R1.rv ⟨cs, rf_rc hc, hv⟩, prel_of (by simpa using hl) hys⟩
theorem all2_map (hev : ∀ x, Rv w F A (S.ev x) (a.eval x)) : ∀ (l : List Operand), All2 (fun x v => Rv w F A x v) (l.map S.ev) (l.map a.eval)
  | [] => .nil
  | x :: l => .cons (hev x) (all2_map hev l)
theorem fillX_len : ∀ {ps : List (Nat × X)} {zs ys : List X}, fillX zs ps = some ys → ys.length = zs.length
  | [], zs, ys, h => by simp only [fillX, Option.some.injEq] at h; rw [h]
  | (j, v) :: ps, zs, ys, h => by
    simp only [fillX] at h
    split at h
    · split at h
      · have := fillX_len h; simpa using this
      · cases h
    · cases h
theorem new_ok (hT : TOk P T) (hS : ShOk T) (h : Inv w0 F0 Pb F A S tm w) (hev : ∀ x, Rv w F A (S.ev x) (a.eval x)) (hq : opq T call an S.r dst o.op (o.op.operands.toList.map S.ev) = some (x, news, fl))
    (hk : match o.op with | .alloc _ | .box _ _ | .buildSlice _ _ _ | .makeSlice _ _ _ => True | .convert _ t _ => ∃ e, tdOf T t = some (.sl e) | _ => False) :
    QOk P w0 F0 Pb S tm w o a x news fl := by
  cases hop : o.op <;> rw [hop] at hq hk <;> simp only [] at hk <;> (try (exact hk.elim)) <;> simp only [Op.operands, List.map_cons, List.map_nil, opq, x1, x2, x3] at hq <;> (try (cases hq; done))
  case alloc t =>
    split at hq
    · rename_i ti ht
      split at hq
      · rename_i hsz
        cases hq
        obtain ⟨i, z, cs, hi, hz, hzv, hzc, hrf⟩ := zero_ok w F A hT ht
        have hfit := (hT t ti ht).fit
        simp only [fits, Bool.and_eq_true, beq_iff_eq] at hfit
        refine var_ok h (y := ti.zero.wkA) (v := z) ⟨cs, rf_rc (rf_wkA (hrf w F)), by rw [wkA_val]; exact hzv⟩ (by rw [wkA_size, hfit.1.1]; exact hsz) (t := t) ?_
        simp [execOp, hop, Instr.alloc, zeroValue, typeInfo, hi, hz, newVar, newRow]
      · cases hq
    · cases hq
  case box t y =>
    split at hq
    · rename_i ti ht
      split at hq
      · rename_i hh
        obtain ⟨hf, hb, hsz⟩ := hh
        cases hq
        simp only [fits, Bool.and_eq_true, beq_iff_eq] at hf
        refine var_ok h (Rv.one (hev y) hb (by simpa using hf.2)) (by rw [hf.1.1]; exact hsz) (t := t) ?_
        simp [execOp, hop, Instr.box, newVar, newRow]
      · cases hq
    · cases hq
  case buildSlice t n ps =>
    unfold buildSlX at hq
    split at hq
    · rename_i e _ _ _ ht
      split at hq
      · rename_i ei he
        split at hq
        · rename_i hz0
          cases hq
          obtain ⟨rfl, hks⟩ := hz0
          obtain ⟨_, d1, _, hu1, _, _, hd1, _⟩ := desc_ok hT ht
          simp only [descOk] at hd1
          subst hd1
          have hps : ps = #[] := by
            apply Array.ext'
            simpa using hks
          subst hps
          intro S1 r' h1 h2 next Q K
          simp only [EV.freezeL, Option.some.injEq] at h1
          subst h1
          obtain ⟨A', hI2, hv⟩ := row_ok h h h2 (below_push w (.cells #[] e)) (all := #[]) (e := e) (fz := (0, 0)) (cap := 0) (by simp) (by simp) (by simp) (c := []) (by simp [RfE]) (by simp) (by simp)
          unfold Oper.wp
          have hex : (execOp a.eval o).run P w = .ok (.value (.slice (some ⟨w.heap.size, 0, none⟩) 0 0)) (w.alloc (.cells #[] e)) := by
            have h0 : Array.range 0 = #[] := by apply Array.ext'; simp
            simp [execOp, hop, Instr.buildSlice, run_underlying hu1, run_sizeOf_T hT he, Instr.fill, newRow, h0]
          rw [hex]
          exact K _ _ _ _ hI2 hv
        split at hq
        · rename_i xs' hx'
          split at hq
          · rename_i hh
            obtain ⟨hn1, hsz, hsz2, hn0⟩ := hh
            split at hq
            · rename_i ys hys
              cases hq
              obtain ⟨_, d1, _, hu1, _, _, hd1, _⟩ := desc_ok hT ht
              simp only [descOk] at hd1
              subst hd1
              obtain ⟨i, z, cs, hi, hz, hzv, hzc, hrf⟩ := zero_ok w F A hT he
              have hfit := (hT e ei he).fit
              simp only [fits, Bool.and_eq_true, beq_iff_eq] at hfit
              obtain ⟨i', _, hi', _, hsi, _⟩ := desc_ok hT he
              rw [hi] at hi'; cases hi'
              intro S1 r' h1 h2 next Q K
              obtain ⟨F1, A1, hI1, hF1, hg1, _⟩ := h.freezeL h1
              have hvals := frwL_vals h.places hF1 hx' hg1 (all2_map (a := a) hev (ps.toList.map (·.2)) |> fun h => by simpa using h)
              have hzl : cs.length = ei.size := by rw [← hfit.1.1]; exact rf_len (hrf w F)
              have hzrep := rfE_replicate (rf_wk (hrf w F1)) n
              rw [hzl] at hzrep
              have hprel := prel_of (w := w) (F := F1) (A := A1) (ks := ps.toList.map (·.1)) (by simp) hvals
              obtain ⟨cs', hfill, hrE⟩ := fill_ar ei.size hzrep (fun p hp => fzL_mem (frwL_fz hx') _ (List.of_mem_zip (a := p.1) (b := p.2) hp).2) hprel hys
              have hzip : (ps.toList.map (·.1)).zip (ps.toList.map fun p => a.eval p.2) = ps.toList.map fun p => (p.1, a.eval p.2) := by
                generalize ps.toList = l
                induction l with
                | nil => rfl
                | cons p l ih => simp [ih]
              have hlen := fillX_len hys
              rw [List.length_replicate] at hlen
              have hcells : ((Array.range (n * i.size)).map (z.cells[· % z.cells.size]!)) = (List.replicate n cs).flatten.toArray := by
                apply Array.ext'
                have hzs : z.cells.size = i.size := by rw [← Array.length_toList, hzc, hzl, hsi]
                have := made_cells (z := z.cells) (by omega) n
                rw [hzs] at this
                rw [hzs, this, hzc]
              have hrun := run_buildSlice (P := P) w t e n (ps.map fun (i, x) => (i, a.eval x)) cs'.toArray i z hu1 hi hz (by rw [hsi]; have : n * ei.size ≤ 1000 * 1000 := Nat.mul_le_mul hn1 hsz2; omega) (by rw [hsi]; exact Nat.pos_iff_ne_zero.1 (Nat.mul_pos hn0 hsz)) (by
                rw [hcells, hsi]
                have : (ps.map fun (i, x) => (i, a.eval x)).toList = (ps.toList.map (·.1)).zip (ps.toList.map fun p => a.eval p.2) := by rw [hzip]; simp
                rw [this]
                simpa [List.map_map, Function.comp_def] using hfill)
              have hl2 := rfE_len hrE
              obtain ⟨A', hI2, hv⟩ := row_ok h hI1 h2 (below_push w (.cells cs'.toArray e)) (all := cs'.toArray) (e := e) (fz := (0, 0)) (cap := n) (by simp) (by simp) (by omega) hrE (by simp) (by simp [hl2, hlen, Nat.mul_comm])
              unfold Oper.wp
              have hex : (execOp a.eval o).run P w = .ok (.value (.slice (some ⟨w.heap.size, 0, none⟩) n n)) (w.alloc (.cells cs'.toArray e)) := by
                simp [execOp, hop, hrun]
              rw [hex]
              rw [hlen] at hv
              exact K _ _ _ _ hI2 hv
            · cases hq
          · cases hq
        · cases hq
      · cases hq
    · cases hq
  case convert src t y =>
    obtain ⟨e0, hk⟩ := hk
    have hy := hev y
    unfold convX at hq
    rw [hk] at hq
    split at hq <;> (try (rename_i hh; cases hh; done)) <;> (try (rename_i hh _; cases hh; done)) <;> (try (rename_i _ hh; cases hh; done))
    · rename_i e hs ht
      cases ht
      split at hq
      · rename_i l he
        split at hq
        · rename_i hu8
          cases hq
          rw [he] at hy
          obtain ⟨si, s1, s2⟩ := td_ok hT hs
          obtain ⟨ti, t1, t2⟩ := td_ok hT hk
          obtain ⟨ei, e1, e2⟩ := td_ok hT hu8.1
          obtain ⟨_, d1, _, hu1, _, _, hd1, _⟩ := desc_ok hT s1
          obtain ⟨_, d2, _, hu2, _, _, hd2, _⟩ := desc_ok hT t1
          obtain ⟨_, d3, _, hu3, _, _, hd3, _⟩ := desc_ok hT e1
          rw [s2] at hd1; rw [t2] at hd2; rw [e2] at hd3
          simp only [descOk] at hd1 hd2 hd3
          subst hd1; subst hd2; subst hd3
          intro S1 r' h1 h2 next Q K
          simp only [EV.freezeL, Option.some.injEq] at h1
          subst h1
          have hrun := run_bytes_of_string (P := P) w src t e0 ⟨l.toArray⟩ hu1 hu2 hu3
          have hsz : (⟨l.toArray⟩ : ByteArray).size = l.length := by show l.toArray.size = _; simp
          have hge := grownCap_ge w l.length 0 e0
          rw [hsz] at hrun
          have hbs : (bytesRow ⟨l.toArray⟩ (grownCap w l.length 0 e0)).size = grownCap w l.length 0 e0 := by simp [bytesRow, hsz]; omega
          have hcs : ∀ (l : List UInt8), RfE w F 1 (ofBytes l) (l.map fun b => Value.int .u8 b.toNat) := by
            intro l
            induction l with
            | nil => simp [ofBytes, RfE]
            | cons c l ih => exact ⟨[.int .u8 c.toNat], _, rfl, rfl, by simp [Rf], ih⟩
          have hb : Below w.heap.size w (w.drew.alloc (.cells (bytesRow ⟨l.toArray⟩ (grownCap w l.length 0 e0)) e0 ((bytesRow ⟨l.toArray⟩ (grownCap w l.length 0 e0)).size, (bytesRow ⟨l.toArray⟩ (grownCap w l.length 0 e0)).size + 1))) :=
            ((Below.refl _ _).drew).alloc (Nat.le_refl _) _
          obtain ⟨A', hI2, hv⟩ := row_ok h h h2 hb (all := bytesRow ⟨l.toArray⟩ (grownCap w l.length 0 e0)) (e := e0) (fz := (_, _)) (cap := grownCap w l.length 0 e0) (heap_alloc_new w.drew _) (fun j hj1 _ => hj1) (by simpa [ofBytes] using hge) (hcs l) (fun j u hu => by
            simp only [bytesRow]
            rw [Array.getElem?_append_left (by have := (List.getElem?_eq_some_iff.1 hu).1; simpa using this)]
            simpa using hu) (by simp [hbs])
          unfold Oper.wp
          have hex : (execOp a.eval o).run P w = .ok (.value (.slice (some ⟨w.heap.size, 0, none⟩) l.length (grownCap w l.length 0 e0))) (w.drew.alloc (.cells (bytesRow ⟨l.toArray⟩ (grownCap w l.length 0 e0)) e0 ((bytesRow ⟨l.toArray⟩ (grownCap w l.length 0 e0)).size, (bytesRow ⟨l.toArray⟩ (grownCap w l.length 0 e0)).size + 1))) := by
            simp [execOp, hop, str_of hy, hrun]
          rw [hex]
          have hl : (ofBytes l).length = l.length := by simp [ofBytes]
          rw [hl] at hv
          exact K _ _ _ _ hI2 hv
        · cases hq
      · cases hq
    all_goals (cases hq; done)
  case makeSlice t l c =>
    obtain ⟨k1, lv, e1, hq⟩ := intX_some hq
    obtain ⟨k2, cv, e2, hq⟩ := intX_some hq
    have hl := hev l
    have hc := hev c
    rw [e1] at hl
    rw [e2] at hc
    unfold makeSlX at hq
    split at hq
    · rename_i e _ _ _ ht
      split at hq
      · rename_i ei he
        split at hq
        · rename_i hh
          obtain ⟨hl0, hlc, hcm, hby, hsz⟩ := hh
          cases hq
          obtain ⟨_, d1, _, hu1, _, _, hd1, _⟩ := desc_ok hT ht
          simp only [descOk] at hd1
          subst hd1
          obtain ⟨i, z, cs, hi, hz, hzv, hzc, hrf⟩ := zero_ok w F A hT he
          have hfit := (hT e ei he).fit
          simp only [fits, Bool.and_eq_true, beq_iff_eq] at hfit
          obtain ⟨i', _, hi', _, hsi, hbi, _⟩ := desc_ok hT he
          rw [hi] at hi'; cases hi'
          intro S1 r' h1 h2 next Q K
          simp only [EV.freezeL, Option.some.injEq] at h1
          subst h1
          have hzl : cs.length = ei.size := by rw [← hfit.1.1]; exact rf_len (hrf w F)
          have hbytes : (i.bytes : Int) * cv ≤ 281474976710656 := by
            obtain ⟨m, rfl⟩ := Int.eq_ofNat_of_zero_le (Int.le_trans hl0 hlc)
            have h1 : m ≤ 2147483647 := by omega
            have h2 : i.bytes ≤ 65536 := by omega
            have := Nat.mul_le_mul h2 h1
            rw [← Int.natCast_mul]
            omega
          have hrun := run_make (P := P) w t e i z hu1 hi hz k1 k2 lv cv hl0 hlc hbytes (by omega)
          have hcells : (madeCells z.cells (cv.toNat * i.size)).toList = (List.replicate cv.toNat cs).flatten := by
            have hzs : z.cells.size = i.size := by rw [← Array.length_toList, hzc, hzl, hsi]
            have := made_cells (z := z.cells) (by omega) cv.toNat
            rw [hzs] at this
            unfold madeCells
            rw [hzs, this, hzc]
          have hrep := rfE_replicate (rf_wk (hrf w F)) cv.toNat
          rw [hzl] at hrep
          have hrep2 := rfE_take lv.toNat hrep
          have hmin : (List.replicate cv.toNat ei.zero.wk).take lv.toNat = List.replicate lv.toNat ei.zero.wk := by rw [List.take_replicate]; congr 1; omega
          rw [hmin] at hrep2
          have hsize : (madeCells z.cells (cv.toNat * i.size)).size = cv.toNat * ei.size := by simp [madeCells, hsi]
          obtain ⟨A', hI2, hv⟩ := row_ok h h h2 (below_push w (.cells (madeCells z.cells (cv.toNat * i.size)) e)) (all := madeCells z.cells (cv.toNat * i.size)) (e := e) (fz := (0, 0)) (cap := cv.toNat) (by simp) (by simp) (by simp; omega) hrep2 (fun j u hu => by
            rw [List.getElem?_take] at hu
            split at hu
            · rw [← Array.getElem?_toList, hcells]; exact hu
            · cases hu) (by rw [hsize]; exact Nat.le_refl _)
          unfold Oper.wp
          have hex : (execOp a.eval o).run P w = .ok (.value (.slice (some ⟨w.heap.size, 0, none⟩) lv.toNat cv.toNat)) (w.alloc (.cells (madeCells z.cells (cv.toNat * i.size)) e)) := by
            simp [execOp, hop, int_of hl, int_of hc, hrun]
          rw [hex]
          rw [List.length_replicate] at hv
          exact K _ _ _ _ hI2 hv
        · cases hq
      · cases hq
    · cases hq
end
end Go.EV
