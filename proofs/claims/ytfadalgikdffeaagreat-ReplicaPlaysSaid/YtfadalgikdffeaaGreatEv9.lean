/- The operations without an effect, in the model's own terms: those that change nothing but their slot. -/
import Derived.Test.YtfadalgikdffeaaGreatEv8
set_option linter.unusedVariables false
set_option linter.unusedSimpArgs false
namespace Go.EV
open Go.RowKit
theorem enc_ascii {n : Int} (h0 : 0 ≤ n) (h1 : n < 128) : Utf8.encode n = ⟨#[UInt8.ofNat n.toNat]⟩ := by
  have hv : Utf8.valid n = true := by
    unfold Utf8.valid
    have : (0 ≤ n && n < 0xD800) = true := by simp; omega
    rw [this]
    rfl
  unfold Utf8.encode
  simp only [hv, if_true]
  rw [if_pos (by omega)]
section
variable {P : Program} {T : TT} {w0 : World} {F0 F : Nat → Prop} {Pb : PB} {A : Nat → Option RA} {S : St} {tm : Nat → Value} {w : World}
theorem Inv.places (h : Inv w0 F0 Pb F A S tm w) : Places w F A S.r := h.rv
/-- What an operation without effect gives. -/
def QOk (P : Program) (w0 : World) (F0 : Nat → Prop) (Pb : PB) (S : St) (tm : Nat → Value) (w : World) (o : Oper) (a : Act) (x : X) (news : List (Nat × X)) (fl : List Nat) : Prop :=
  ∀ S1 r', freezeL S fl = some S1 → addR nlim S1.r news = some r' → ∀ (next : Act → World → Prop) (Q : Exit → Act → World → Prop),
    (∀ v w' F' A', Inv w0 F0 Pb F' A' { S1 with r := r' } tm w' → Rv w' F' A' x v → next (a.put o.dst v) w') → o.wp P a w next Q
theorem QOk.plain (h : Inv w0 F0 Pb F A S tm w) {o : Oper} {a : Act} {x : X} {news : List (Nat × X)} {fl : List Nat} (hn : news = []) (hf : fl = [])
    (hr : ∃ v, (execOp a.eval o).run P w = .ok (.value v) w ∧ Rv w F A x v) : QOk P w0 F0 Pb S tm w o a x news fl := by
  subst hn hf
  intro S1 r' h1 h2 next Q K
  simp only [freezeL, Option.some.injEq] at h1
  subst h1
  simp only [addR, Option.some.injEq] at h2
  subst h2
  obtain ⟨v, hrun, hv⟩ := hr
  unfold Oper.wp
  rw [hrun]
  exact K v w F A h hv
theorem q1_some {x : Option X} {y : X} {news : List (Nat × X)} {fl : List Nat} (h : q1 x = some (y, news, fl)) : x = some y ∧ news = [] ∧ fl = [] := by
  cases x with
  | none => cases h
  | some x => simp only [q1, Option.some.injEq, Prod.mk.injEq] at h; obtain ⟨rfl, rfl, rfl⟩ := h; exact ⟨rfl, rfl, rfl⟩
variable {call : FuncId → List X → Option (X × List X)} {an : FuncId → An} {dst : Nat} {a : Act} {o : Oper} {x : X} {news : List (Nat × X)} {fl : List Nat}
theorem run_v {s : Sem Value} {v : Value} (h : s.run P w = .ok v w) : (do pure (.value (← s)) : Sem Next).run P w = .ok (.value v) w := by simp [h]
theorem optX_rel (hev : ∀ x, Rv w F A (S.ev x) (a.eval x)) (lo : Option Operand) (ys : List Operand) : ORel w F A (optX lo ((lo.toList ++ ys).map S.ev)).1 (lo.map a.eval) ∧ (optX lo ((lo.toList ++ ys).map S.ev)).2 = ys.map S.ev := by
  cases lo with
  | none => exact ⟨trivial, rfl⟩
  | some l => exact ⟨hev l, rfl⟩
theorem run_q (h : Inv w0 F0 Pb F A S tm w) {y : Option X} (hq : q1 y = some (x, news, fl)) (hr : ∀ z, y = some z → ∃ v, (execOp a.eval o).run P w = .ok (.value v) w ∧ Rv w F A z v) : QOk P w0 F0 Pb S tm w o a x news fl := by
  obtain ⟨h1, h2, h3⟩ := q1_some hq
  exact .plain h h2 h3 (hr x h1)
theorem exec_v {s : Sem Value} (he : execOp a.eval o = (do pure (.value (← s)) : Sem Next)) {z : X} (h : ∃ v, s.run P w = .ok v w ∧ Rv w F A z v) : ∃ v, (execOp a.eval o).run P w = .ok (.value v) w ∧ Rv w F A z v := by
  obtain ⟨v, h1, h2⟩ := h
  exact ⟨v, by rw [he]; exact run_v h1, h2⟩
theorem intX_some {y : X} {f : Int → Quiet} {q} (h : intX y f = some q) : ∃ k n, y = .i k n ∧ f n = some q := by
  cases y with
  | i k n => exact ⟨k, n, rfl, h⟩
  | _ => cases h
theorem prel_zip (hev : ∀ x, Rv w F A (S.ev x) (a.eval x)) : ∀ (ps : List (Nat × Operand)), PRel w F A ((ps.map (·.1)).zip ((ps.map (·.2)).map S.ev)) (ps.map fun p => (p.1, a.eval p.2))
  | [] => rfl
  | p :: ps => ⟨rfl, hev _, prel_zip hev ps⟩
theorem foldl_push : ∀ (ns : List Int) (s : ByteArray), ns.foldl (fun r n => r.push (UInt8.ofNat n.toNat)) s = ⟨(s.data.toList ++ ns.map fun n => UInt8.ofNat n.toNat).toArray⟩
  | [], s => by cases s; simp
  | n :: ns, s => by
    simp only [List.foldl_cons]
    rw [foldl_push ns]
    simp [ByteArray.push]
theorem bytes_run {c : List X} {l : List UInt8} (hl : toBytes c = some l) {ad : Option Addr} {n : Nat} (hmem : c = [] ∨ ∃ b o d cs, ad = some ⟨b, o, none⟩ ∧ RfE w F d c cs ∧ MemAt w b o cs) :
    (Conv.bytesToString (.slice ad c.length n)).run P w = .ok (.string ⟨l.toArray⟩) w := by
  rcases hmem with rfl | ⟨b, o, d, cs, rfl, hrf, hm⟩
  · simp only [toBytes, Option.some.injEq] at hl
    subst hl
    cases ad with
    | none => simp [Conv.bytesToString]; rfl
    | some ad =>
      have := run_bytesToString (P := P) w ad 0 n [] (by simp [loadCells, loadCellsFrom])
      exact this
  · obtain ⟨ns, rfl, rfl⟩ := toBytes_cells hl hrf
    have hlen := rfE_len hrf
    have hl2 : (ns.map (Value.int .u8)).length = c.length := by
      have : ∀ {c : List X} {l : List UInt8}, toBytes c = some l → l.length = c.length := by
        intro c
        induction c with
        | nil => intro l h; simp [toBytes] at h; simp [h]
        | cons x c ih =>
          intro l h
          unfold toBytes at h
          split at h
          · rename_i h0; cases h0
          · rename_i h0; cases h0; obtain ⟨l', h1, rfl⟩ := Option.map_eq_some_iff.1 h; simp [ih h1]
          · cases h
      have := this hl
      simpa using this
    have hload := run_loadCells_list (P := P) w ⟨b, o, none⟩ (ns.map (Value.int .u8)) (fun j v hv => by rw [Addr.add_mid]; exact hm j v hv)
    rw [hl2] at hload
    rw [run_bytesToString w _ c.length n ns hload, foldl_push]
    simp [ByteArray.empty, ByteArray.emptyWithCapacity]
    rfl
theorem lenV_ok (hT : TOk P T) {r : Nat → Option X} (hr : Places w F A r) {ts : Array Nat} {ty : Nat} {y z : X} (h : lenV T r (ts[0]?) y = some z) {v : Value} (hv : Rv w F A y v) : ∃ u, (Builtin.len_ ts ty #[v]).run P w = .ok u w ∧ Rv w F A z u := by
  unfold lenV at h
  split at h
  · rename_i e he
    obtain ⟨t, ht, htd⟩ := Option.bind_eq_some_iff.1 he
    obtain ⟨ti, t1, t2⟩ := td_ok hT htd
    obtain ⟨_, d1, _, hu1, _, _, hd1, _⟩ := desc_ok hT t1
    rw [t2] at hd1
    simp only [descOk] at hd1
    subst hd1
    have key : (∀ l, y ≠ .s l) → (lenX r y).map (fun (n : Nat) => X.i .i64 n) = some z → ∃ u, (Builtin.len_ ts ty #[v]).run P w = .ok u w ∧ Rv w F A z u := by
      intro hne h
      obtain ⟨n, hn, rfl⟩ := Option.map_eq_some_iff.1 h
      rcases lenX_ok hr hn hv with ⟨l, rfl⟩ | ⟨ad, c, rfl⟩
      · exact absurd rfl (hne l)
      · exact ⟨_, by simp [Builtin.len_, ht, run_underlying hu1, goInt], int_ok _ _⟩
    cases y <;> first | (cases h; done) | exact key (by simp) h
  · rename_i he
    obtain ⟨t, ht, htd⟩ := Option.bind_eq_some_iff.1 he
    obtain ⟨ti, t1, t2⟩ := td_ok hT htd
    obtain ⟨_, d1, _, hu1, _, _, hd1, _⟩ := desc_ok hT t1
    rw [t2] at hd1
    simp only [descOk] at hd1
    subst hd1
    split at h
    · cases h
      rename_i l
      obtain rfl := str_of hv
      have hsz : (⟨l.toArray⟩ : ByteArray).size = l.length := by show l.toArray.size = _; simp
      exact ⟨_, by simp [Builtin.len_, ht, run_underlying hu1, goInt, hsz], int_ok _ _⟩
    · cases h
  · cases h
theorem run_slice (hT : TOk P T) (h : Inv w0 F0 Pb F A S tm w) (hev : ∀ x, Rv w F A (S.ev x) (a.eval x)) {t : Nat} {y : Operand} {lo hi mx : Option Operand} (hop : o.op = .slice t y lo hi mx)
    (hq : sliceX T S.r t lo hi mx (S.ev y :: ((lo.toList ++ hi.toList ++ mx.toList).map S.ev)) = some (x, news, fl)) : QOk P w0 F0 Pb S tm w o a x news fl := by
  have e1 := optX_rel hev lo (hi.toList ++ mx.toList)
  have e2 := optX_rel hev hi mx.toList
  have e3 := optX_rel hev mx []
  simp only [List.append_nil] at e3
  have hy := hev y
  unfold sliceX at hq
  simp only [List.append_assoc] at hq
  simp only [e1.2, e2.2] at hq
  split at hq
  · rename_i ht
    split at hq
    · rename_i l he
      rw [he] at hy
      obtain ⟨_, d1, _, hu1, _, _, hd1, _⟩ := desc_ok hT ht
      simp only [descOk] at hd1
      subst hd1
      refine run_q h hq fun u hz => exec_v (s := Instr.sliceAt t (a.eval y) (lo.map a.eval) (hi.map a.eval) (mx.map a.eval)) (by simp [execOp, hop]) ?_
      rw [str_of hy]
      exact cutS_ok hu1 e1.1 e2.1 e3.1 hz
    · cases hq
  · rename_i e _ _ _ ht
    split at hq
    · rename_i ei he
      refine run_q h hq fun u hz => exec_v (s := Instr.sliceAt t (a.eval y) (lo.map a.eval) (hi.map a.eval) (mx.map a.eval)) (by simp [execOp, hop]) ?_
      exact cut_ok hT ht rfl he h.places hy e1.1 e2.1 e3.1 hz
    · cases hq
  · cases hq
theorem caps_rcl (hev : ∀ x, Rv w F A (S.ev x) (a.eval x)) : ∀ (l : List Operand), (l.map S.ev).all (fun x => !x.agg && !x.isBot && !x.isTup) = true → RcL w F A (l.map S.ev) (l.map a.eval)
  | [], _ => by simp [RcL]
  | y :: l, h => by
    simp only [List.map_cons, List.all_cons, Bool.and_eq_true, Bool.not_eq_true'] at h
    simp only [List.map_cons, RcL]
    exact ⟨[a.eval y], l.map a.eval, rfl, (Rv.one (hev y) h.1.1.2 h.1.2).single h.1.1.1, caps_rcl hev l (by simpa using h.2)⟩
theorem plain_ok (hT : TOk P T) (hS : ShOk T) (h : Inv w0 F0 Pb F A S tm w) (hev : ∀ x, Rv w F A (S.ev x) (a.eval x)) (hq : opq T call an S.r dst o.op (o.op.operands.toList.map S.ev) = some (x, news, fl))
    (hk : match o.op with | .alloc _ | .box _ _ | .buildSlice _ _ _ | .makeSlice _ _ _ => False | .convert _ t _ => ∀ e, tdOf T t ≠ some (.sl e) | .call c => c.callee = .builtin .len ∨ c.callee = .builtin .min ∨ c.callee = .builtin .max | _ => True) :
    QOk P w0 F0 Pb S tm w o a x news fl := by
  cases hop : o.op <;> rw [hop] at hq hk <;> simp only [] at hk <;> (try (exact hk.elim)) <;> simp only [Op.operands, List.map_cons, List.map_nil, opq, x1, x2, x3] at hq <;> (try (cases hq; done))
  case move y => exact run_q h hq fun z hz => by cases hz; exact ⟨_, by simp [execOp, hop], hev y⟩
  case assign y => exact run_q h hq fun z hz => by cases hz; exact ⟨_, by simp [execOp, hop], hev y⟩
  case pick c y z =>
    refine run_q h hq fun u hz => ?_
    unfold pickX at hz
    split at hz
    · rename_i c' he
      cases hz
      have hc := hev c
      rw [he] at hc
      refine ⟨if c' then a.eval y else a.eval z, by simp [execOp, hop, bool_of hc, asBool], ?_⟩
      cases c' <;> simp <;> exact hev _
    · cases hz
  case build t ps =>
    refine run_q h hq fun u hz => ?_
    refine exec_v (s := Instr.build t (ps.map fun (i, x) => (i, a.eval x))) (by simp [execOp, hop]) ?_
    have e : (ps.map fun (i, x) => (i, a.eval x)) = (ps.toList.map fun p => (p.1, a.eval p.2)).toArray := by
      apply Array.ext'; simp
    rw [e]
    have hrel := prel_zip hev ps.toList
    unfold buildX at hz
    split at hz
    · rename_i ti ht
      obtain ⟨b1, b2⟩ := build_ok hT hS ht hrel
      split at hz
      · rename_i zs hzs
        obtain ⟨ys, hys, rfl⟩ := Option.map_eq_some_iff.1 hz
        exact b1 zs ys hzs hys
      · rename_i d zs hzs
        split at hz
        · rename_i hfz
          obtain ⟨ys, hys, rfl⟩ := Option.map_eq_some_iff.1 hz
          refine b2 d zs ys hzs (fun p hp => ?_) hys
          have := List.of_mem_zip (a := p.1) (b := p.2) hp
          simp only [List.all_eq_true] at hfz
          exact hfz _ this.2
        · cases hz
      · cases hz
    · cases hz
  case load t y =>
    exact run_q h hq fun u hz => exec_v (s := Instr.loadAt t (a.eval y)) (by simp [execOp, hop]) (ldV_ok hT hz (hev y) fun g c hg => h.places.mem hg)
  case nilCheck y =>
    have hy := hev y
    split at hq
    · rename_i g off p he
      rw [he] at hy
      obtain ⟨ra, hA, hc, hv⟩ := pt_of hy
      exact run_q h hq fun u hz => by cases hz; exact ⟨_, (by simp [execOp, hop, hv]; rfl), by rw [hv] at hy; exact hy⟩
    · rename_i y' he
      rw [he] at hy
      obtain ⟨a0, cs, hv, _⟩ := pf_of hy
      exact run_q h hq fun u hz => by cases hz; exact ⟨_, (by simp [execOp, hop, hv]; rfl), by rw [hv] at hy; exact hy⟩
    · cases hq
  case binOp op t y z yt =>
    refine run_q h hq fun u hz => ?_
    exact exec_v (s := do eqGuard op t y z (a.eval y) (a.eval z); binOp op t (a.eval y) (a.eval z)) (by simp [execOp, hop]) (binvS_ok hT hz (hev y) (hev z) y z)
  case unOp op t y => exact run_q h hq fun u hz => exec_v (s := Op.unary op (a.eval y)) (by simp [execOp, hop]) (unv_ok hz (hev y))
  case convert src t y =>
    have hy := hev y
    unfold convX at hq
    split at hq
    · rename_i k0 k hs ht
      obtain ⟨k1, n, he, hq⟩ := intX_some hq
      rw [he] at hy
      obtain ⟨si, s1, s2⟩ := td_ok hT hs
      obtain ⟨ti, t1, t2⟩ := td_ok hT ht
      obtain ⟨_, d1, _, hu1, _, _, hd1, _⟩ := desc_ok hT s1
      obtain ⟨_, d2, _, hu2, _, _, hd2, _⟩ := desc_ok hT t1
      rw [s2] at hd1; rw [t2] at hd2
      simp only [descOk] at hd1 hd2
      subst hd1; subst hd2
      refine run_q h hq fun u hz => ?_
      cases hz
      exact exec_v (s := convert src t (a.eval y)) (by simp [execOp, hop]) ⟨_, by simp [convert, run_underlying hu1, run_underlying hu2, int_of hy, Conv.intToInt], int_ok _ _⟩
    · rename_i k0 hs ht
      obtain ⟨k1, n, he, hq⟩ := intX_some hq
      split at hq
      · rename_i hn
        rw [he] at hy
        obtain ⟨si, s1, s2⟩ := td_ok hT hs
        obtain ⟨ti, t1, t2⟩ := td_ok hT ht
        obtain ⟨_, d1, _, hu1, _, _, hd1, _⟩ := desc_ok hT s1
        obtain ⟨_, d2, _, hu2, _, _, hd2, _⟩ := desc_ok hT t1
        rw [s2] at hd1; rw [t2] at hd2
        simp only [descOk] at hd1 hd2
        subst hd1; subst hd2
        refine run_q h hq fun u hz => ?_
        cases hz
        exact exec_v (s := convert src t (a.eval y)) (by simp [execOp, hop]) ⟨_, by simp [convert, run_underlying hu1, run_underlying hu2, int_of hy, Conv.intToString, enc_ascii hn.1 hn.2], str_ok _⟩
      · cases hq
    · rename_i hs ht
      split at hq
      · rename_i l he
        rw [he] at hy
        obtain ⟨si, s1, s2⟩ := td_ok hT hs
        obtain ⟨ti, t1, t2⟩ := td_ok hT ht
        obtain ⟨_, d1, _, hu1, _, _, hd1, _⟩ := desc_ok hT s1
        obtain ⟨_, d2, _, hu2, _, _, hd2, _⟩ := desc_ok hT t1
        rw [s2] at hd1; rw [t2] at hd2
        simp only [descOk] at hd1 hd2
        subst hd1; subst hd2
        refine run_q h hq fun u hz => ?_
        cases hz
        exact exec_v (s := convert src t (a.eval y)) (by simp [execOp, hop]) ⟨_, by simp [convert, run_underlying hu1, run_underlying hu2, str_of hy], str_ok _⟩
      · cases hq
    · rename_i e hs ht
      exact absurd ht (hk e)
    · rename_i e hs ht
      split at hq
      · rename_i hu8
        split at hq
        · rename_i c hc
          refine run_q h hq fun u hz => ?_
          obtain ⟨l, hl, rfl⟩ := Option.map_eq_some_iff.1 hz
          obtain ⟨si, s1, s2⟩ := td_ok hT hs
          obtain ⟨ti, t1, t2⟩ := td_ok hT ht
          obtain ⟨ei, e1, e2⟩ := td_ok hT hu8
          obtain ⟨_, d1, _, hu1, _, _, hd1, _⟩ := desc_ok hT s1
          obtain ⟨_, d2, _, hu2, _, _, hd2, _⟩ := desc_ok hT t1
          obtain ⟨_, d3, _, hu3, _, _, hd3, _⟩ := desc_ok hT e1
          rw [s2] at hd1; rw [t2] at hd2; rw [e2] at hd3
          simp only [descOk] at hd1 hd2 hd3
          subst hd1; subst hd2; subst hd3
          obtain ⟨ad, n, hv, hln, hmem⟩ := elems_ok h.places hc hy
          refine exec_v (s := convert src t (a.eval y)) (by simp [execOp, hop]) ?_
          rw [hv]
          refine ⟨.string ⟨l.toArray⟩, ?_, str_ok _⟩
          rw [run_convert_bytes_string w src t e ad c.length n hu1 hu3 hu2]
          exact bytes_run hl hmem
        · cases hq
      · cases hq
    · cases hq
  case slice t y lo hi mx =>
    refine run_slice hT h hev hop ?_
    simpa using hq
  case fieldAddr t y f => exact run_q h hq fun u hz => exec_v (s := Instr.fieldAt t (a.eval y) f) (by simp [execOp, hop]) (fldA_ok hT hz (hev y))
  case field t y f => exact run_q h hq fun u hz => exec_v (s := Instr.field t (a.eval y) f) (by simp [execOp, hop]) (fldV_ok hT hz (hev y))
  case indexAddr t y n =>
    obtain ⟨k, m, he, hq⟩ := intX_some hq
    have hn := hev n
    rw [he] at hn
    exact run_q h hq fun u hz => exec_v (s := Instr.indexAt t (a.eval y) (.int k m)) (by simp [execOp, hop, int_of hn]) (idxA_ok hT h.places hz (hev y))
  case index t y n =>
    obtain ⟨k, m, he, hq⟩ := intX_some hq
    have hn := hev n
    rw [he] at hn
    exact run_q h hq fun u hz => exec_v (s := Instr.index t (a.eval y) (.int k m)) (by simp [execOp, hop, int_of hn]) (idxV_ok hT hz (hev y))
  case extract y j =>
    split at hq
    · rename_i ys he
      have hy := hev y
      rw [he] at hy
      exact run_q h hq fun u hz => exec_v (s := Instr.extract (a.eval y) j) (by simp [execOp, hop]) (extract_ok hz hy)
    · cases hq
  case makeFunc fn first cap =>
    split at hq
    · rename_i f
      unfold capX at hq
      split at hq
      · rename_i hb
        simp only [Bool.and_eq_true] at hb
        obtain ⟨hf1, hall⟩ := hb
        have hf0 : first = #[] := by simpa using hf1
        subst hf0
        have hl : ((#[] : Array Operand) ++ cap).toList = cap.toList := by simp
        rw [hl] at hq hall
        refine run_q h hq fun u hu => ?_
        cases hu
        refine exec_v (s := Instr.makeFunc (.func f) ((#[] : Array Operand).map a.eval) (cap.map a.eval)) (by simp [execOp, hop]) ?_
        refine ⟨_, rfl, R1.rv (R1.of_single ?_ rfl)⟩
        simp only [Rc]
        refine ⟨cap.toList.map a.eval, caps_rcl hev cap.toList hall, ?_, ?_⟩
        rotate_left
        · have e : cap.map a.eval = (cap.toList.map a.eval).toArray := by apply Array.ext'; simp
          rw [e]; simp
        simp only [List.all_eq_true, Bool.and_eq_true, Bool.not_eq_true'] at hall ⊢
        exact fun x hx => (hall x hx).1.1
      · cases hq
    · cases hq
  case call c =>
    have hc : c.operands = c.args := by rcases hk with hk | hk | hk <;> simp [Call.operands, hk]
    rw [hc] at hq
    rcases hk with hk | hk
    · simp only [hk] at hq
      split at hq
      · rename_i y he
        obtain ⟨z, hz⟩ : ∃ z, c.args = #[z] := by
          match hcs : c.args.toList with
          | [] => rw [hcs] at he; simp at he
          | [z] => exact ⟨z, by apply Array.ext'; simpa using hcs⟩
          | _ :: _ :: _ => rw [hcs] at he; simp at he
        rw [hz] at he
        simp at he
        subst he
        refine run_q h hq fun u hu => ?_
        refine exec_v (s := Builtin.len_ c.argTypes o.type #[a.eval z]) (by simp [execOp, hop, resolve, hk, invoke, builtin, hz]) ?_
        exact lenV_ok hT h.places hu (hev z)
      · cases hq
    · rcases hk with hk | hk
      · simp only [hk] at hq
        split at hq
        · rename_i y y' he
          obtain ⟨z, z', hz⟩ : ∃ z z', c.args = #[z, z'] := by
            match hcs : c.args.toList with
            | [] => rw [hcs] at he; simp at he
            | [_] => rw [hcs] at he; simp at he
            | [z, z'] => exact ⟨z, z', by apply Array.ext'; simpa using hcs⟩
            | _ :: _ :: _ :: _ => rw [hcs] at he; simp at he
          rw [hz] at he
          simp at he
          obtain ⟨rfl, rfl⟩ := he
          refine run_q h hq fun u hu => ?_
          exact exec_v (s := Builtin.min_ c.argTypes o.type #[a.eval z, a.eval z']) (by simp [execOp, hop, resolve, hk, invoke, builtin, hz]) ((mm_ok hu (hev z) (hev z')).1 rfl)
        · cases hq
      · simp only [hk] at hq
        split at hq
        · rename_i y y' he
          obtain ⟨z, z', hz⟩ : ∃ z z', c.args = #[z, z'] := by
            match hcs : c.args.toList with
            | [] => rw [hcs] at he; simp at he
            | [_] => rw [hcs] at he; simp at he
            | [z, z'] => exact ⟨z, z', by apply Array.ext'; simpa using hcs⟩
            | _ :: _ :: _ :: _ => rw [hcs] at he; simp at he
          rw [hz] at he
          simp at he
          obtain ⟨rfl, rfl⟩ := he
          refine run_q h hq fun u hu => ?_
          exact exec_v (s := Builtin.max_ c.argTypes o.type #[a.eval z, a.eval z']) (by simp [execOp, hop, resolve, hk, invoke, builtin, hz]) ((mm_ok hu (hev z) (hev z')).2 rfl)
        · cases hq
end
end Go.EV
