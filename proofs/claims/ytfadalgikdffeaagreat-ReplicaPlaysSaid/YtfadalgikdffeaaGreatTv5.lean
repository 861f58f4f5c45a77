/- States of typed values: what is frozen, dropped, stored, appended; one operation. -/
import Derived.Test.YtfadalgikdffeaaGreatTv4
set_option linter.unusedVariables false
set_option linter.unusedSimpArgs false
namespace Go.EV
open Go.RowKit
mutual
def TX.sub (g : Nat) (τ : Ty) (c : List τ.den) : TX → TX
  | .ag xs => .ag (tsubL g τ c xs)
  | .tup xs => .tup (tsubL g τ c xs)
  | .fn f xs => if (trefsL xs).contains g then .bot else .fn f xs
  | .hw h => if h = g then .sl false τ c else .hw h
  | .hd h lo len f => if h = g then .sl f τ ((List.drop lo c).take len) else .hd h lo len f
  | .pt h ps => if h = g then .bot else .pt h ps
  | .b v => .b v | .i k n => .i k n | .s l => .s l | .ar d σ vs => .ar d σ vs | .sl f σ vs => .sl f σ vs | .emp f => .emp f | .np => .np | .pf x => .pf x | .nm => .nm | .nf => .nf | .bot => .bot
def tsubL (g : Nat) (τ : Ty) (c : List τ.den) : List TX → List TX
  | [] => []
  | x :: xs => x.sub g τ c :: tsubL g τ c xs
end
mutual
def TX.kill (p : Nat → Bool) : TX → TX
  | .ag xs => .ag (tkillL p xs)
  | .tup xs => .tup (tkillL p xs)
  | .fn f xs => if (trefsL xs).any p then .bot else .fn f xs
  | .hw h => if p h then .bot else .hw h
  | .hd h lo len f => if p h then .bot else .hd h lo len f
  | .pt h ps => if p h then .bot else .pt h ps
  | .b v => .b v | .i k n => .i k n | .s l => .s l | .ar d σ vs => .ar d σ vs | .sl f σ vs => .sl f σ vs | .emp f => .emp f | .np => .np | .pf x => .pf x | .nm => .nm | .nf => .nf | .bot => .bot
def tkillL (p : Nat → Bool) : List TX → List TX
  | [] => []
  | x :: xs => x.kill p :: tkillL p xs
end
mutual
theorem sub_x (g : Nat) (τ : Ty) (c : List τ.den) : ∀ x : TX, (x.sub g τ c).x = x.x.sub g (c.map (embX τ))
  | .ag xs => by simp only [TX.sub, TX.x, X.sub]; rw [subL_x g τ c xs]
  | .tup xs => by simp only [TX.sub, TX.x, X.sub]; rw [subL_x g τ c xs]
  | .fn f xs => by simp only [TX.sub, TX.x, X.sub, refsL_x]; split <;> simp [TX.x]
  | .hw h => by simp only [TX.sub, TX.x, X.sub]; split <;> simp [TX.x]
  | .hd h lo len f => by simp only [TX.sub, TX.x, X.sub]; split <;> simp [TX.x, mid, List.map_drop, List.map_take]
  | .pt h ps => by simp only [TX.sub, TX.x, X.sub]; split <;> simp [TX.x]
  | .b v | .i k n | .s l | .ar d σ vs | .sl f σ vs | .emp f | .np | .pf x | .nm | .nf | .bot => by simp [TX.sub, TX.x, X.sub]
theorem subL_x (g : Nat) (τ : Ty) (c : List τ.den) : ∀ xs : List TX, txL (tsubL g τ c xs) = subL g (c.map (embX τ)) (txL xs)
  | [] => rfl
  | x :: xs => by simp only [tsubL, txL, subL, sub_x g τ c x, subL_x g τ c xs]
end
mutual
theorem kill_x (p : Nat → Bool) : ∀ x : TX, (x.kill p).x = x.x.kill p
  | .ag xs => by simp only [TX.kill, TX.x, X.kill]; rw [killL_x p xs]
  | .tup xs => by simp only [TX.kill, TX.x, X.kill]; rw [killL_x p xs]
  | .fn f xs => by simp only [TX.kill, TX.x, X.kill, refsL_x]; split <;> simp [TX.x]
  | .hw h => by simp only [TX.kill, TX.x, X.kill]; split <;> simp [TX.x]
  | .hd h lo len f => by simp only [TX.kill, TX.x, X.kill]; split <;> simp [TX.x]
  | .pt h ps => by simp only [TX.kill, TX.x, X.kill]; split <;> simp [TX.x]
  | .b v | .i k n | .s l | .ar d σ vs | .sl f σ vs | .emp f | .np | .pf x | .nm | .nf | .bot => by simp [TX.kill, TX.x, X.kill]
theorem killL_x (p : Nat → Bool) : ∀ xs : List TX, txL (tkillL p xs) = killL p (txL xs)
  | [] => rfl
  | x :: xs => by simp only [tkillL, txL, killL, kill_x p x, killL_x p xs]
end
def freezeT (S : TS) (g : Nat) : Option TS :=
  match S.r g with
  | some (.ar _ τ c) => some { t := fun v => (S.t v).sub g τ c, r := fun h => if h = g then none else (match S.r h with | some x => some (x.sub g τ c) | none => none) }
  | _ => none
theorem freezeT_ok {S S' : TS} {g : Nat} (h : freezeT S g = some S') : freeze S.x g = some S'.x := by
  unfold freezeT at h
  split at h
  · rename_i d τ c hg
    cases h
    have hg' : S.x.r g = some (.ar d (c.map (embX τ))) := by simp [TS.x, rX, hg, TX.x]
    simp only [freeze, hg', Option.some.injEq]
    simp only [TS.x, St.mk.injEq]
    refine ⟨by funext v; simp [sub_x], ?_⟩
    funext k
    simp only [rX]
    split
    · simp
    · cases hk : S.r k <;> simp [hk, sub_x]
  · cases h
def freezeTL : TS → List Nat → Option TS
  | S, [] => some S
  | S, g :: gs => match S.r g with
    | none => freezeTL S gs
    | some _ => match freezeT S g with
      | some S' => freezeTL S' gs
      | none => none
theorem freezeTL_ok : ∀ {gs : List Nat} {S S' : TS}, freezeTL S gs = some S' → freezeL S.x gs = some S'.x
  | [], S, S', h => by simp only [freezeTL, Option.some.injEq] at h; subst h; rfl
  | g :: gs, S, S', h => by
    simp only [freezeTL] at h
    split at h
    · rename_i hg
      have : S.x.r g = none := by simp [TS.x, rX, hg]
      simp only [freezeL, this]
      exact freezeTL_ok h
    · rename_i y hg
      have : S.x.r g = some y.x := by simp [TS.x, rX, hg]
      simp only [freezeL, this]
      split at h
      · rename_i S1 h1
        rw [freezeT_ok h1]
        exact freezeTL_ok h
      · cases h
def dropIfT (S : TS) (p : Nat → Bool) : TS := { t := fun v => (S.t v).kill p, r := fun h => if p h then none else (match S.r h with | some x => some (x.kill p) | none => none) }
theorem dropIfT_ok (S : TS) (p : Nat → Bool) : dropIf S.x p = (dropIfT S p).x := by
  simp only [dropIf, dropIfT, TS.x, St.mk.injEq]
  refine ⟨by funext v; simp [kill_x], ?_⟩
  funext k
  simp only [rX]
  split
  · simp
  · cases hk : S.r k <;> simp [kill_x]
def putT (S : TS) (dst : Option Nat) (x : TX) : TS :=
  match dst with
  | some d => { S with t := upd S.t d x }
  | none => S
theorem upd_map {α β : Type} (f : α → β) (t : Nat → α) (d : Nat) (x : α) : (fun v => f (upd t d x v)) = upd (fun v => f (t v)) d (f x) := by
  funext v; simp only [upd]; split <;> rfl
theorem rX_upd (r : Nat → Option TX) (g : Nat) (x : TX) : rX (upd r g (some x)) = upd (rX r) g (some x.x) := by
  funext v; simp only [rX, upd]; split <;> rfl
theorem putT_ok (S : TS) (dst : Option Nat) (x : TX) : (putT S dst x).x = put S.x dst x.x := by
  cases dst with
  | none => rfl
  | some d => simp only [putT, put, TS.x, upd_map]
def freeNT (lim : Nat) (r : Nat → Option TX) (g : Nat) : Bool := match r g with
  | none => decide (g < lim)
  | some _ => false
theorem freeNT_ok {lim : Nat} {r : Nat → Option TX} {g : Nat} (h : freeNT lim r g = true) : freeN lim (rX r) g = true := by
  unfold freeNT at h
  split at h
  · rename_i hg
    simp only [freeN, rX, hg, Option.map_none, Option.isNone_none, Bool.true_and]
    exact h
  · cases h
def addRT (lim : Nat) (r : Nat → Option TX) : List (Nat × TX) → Option (Nat → Option TX)
  | [] => some r
  | (g, x) :: l => match freeNT lim r g with
    | true => addRT lim (upd r g (some x)) l
    | false => none
theorem addRT_ok {lim : Nat} : ∀ {l : List (Nat × TX)} {r r' : Nat → Option TX}, addRT lim r l = some r' → addR lim (rX r) (newsX l) = some (rX r')
  | [], r, r', h => by simp only [addRT, Option.some.injEq] at h; subst h; rfl
  | (g, x) :: l, r, r', h => by
    simp only [addRT] at h
    split at h
    · rename_i hg
      have := freeNT_ok hg
      simp only [newsX, List.map_cons, addR, this, ← rX_upd]
      exact addRT_ok h
    · cases h
def arEq : TX → TX → Bool
  | .ar d _ vs, .ar d' _ ws => d == d' && vs.length == ws.length
  | .ar _ _ _, _ => false
  | _, .ar _ _ _ => false
  | _, _ => true
theorem arEq_ok {x y : TX} (h : arEq x y = true) : x.x.arD = y.x.arD := by
  cases x <;> cases y <;> simp_all [arEq, TX.x, X.arD]
def storeInT (S : TS) (ti : TI) (g : Nat) (ps : List PStep) (v : TX) : Option (Bool × TS) :=
  match S.r g with
  | some c => match navT c ps with
    | some (ch, y) => match setAtT c ps v with
      | some (ch', c') => some (fitsT ti y && fitsT ti v && !v.isBot && (!ps.any PStep.isX || v.fz) && arEq v y && ch' && ch, { S with r := upd S.r g (some c') })
      | none => none
    | none => none
  | none => none
theorem storeInT_ok {S S' : TS} {ti : TI} {g : Nat} {ps : List PStep} {v : TX} (h : storeInT S ti g ps v = some (true, S')) : storeIn S.x ti g (offOf ps) (keysOf ps) v.x = some (.bot, S'.x) := by
  unfold storeInT at h
  split at h
  · rename_i c hg
    split at h
    · rename_i ch y hn
      split at h
      · rename_i ch' c' hs
        simp only [Option.some.injEq, Prod.mk.injEq] at h
        obtain ⟨hc, rfl⟩ := h
        simp only [Bool.and_eq_true, Bool.or_eq_true, Bool.not_eq_true'] at hc
        obtain ⟨⟨⟨⟨⟨⟨h1, h2⟩, h3⟩, h4⟩, h5⟩, rfl⟩, rfl⟩ := hc
        have hg' : S.x.r g = some c.x := by simp [TS.x, rX, hg]
        have hin := inAr_ok hn
        simp only [storeIn, hg', navT_ok hn]
        rw [if_pos]
        · rw [setAtT_ok hn hs]
          simp only [TS.x, rX_upd]
        · refine ⟨trivial, by rw [fits_x]; exact h1, by rw [fits_x]; exact h2, by rw [bot_x]; exact h3, fun hi => ?_, arEq_ok h5⟩
          rw [hin] at hi
          rw [fz_x]
          rcases h4 with h4 | h4
          · rw [hi] at h4; cases h4
          · exact h4
      · cases h
    · cases h
  · cases h
def storeT (T : TT) (S : TS) (t : Nat) (p v : TX) : Option (Bool × TS) :=
  match p with
  | .pt g ps => match T t with
    | some ti => match S.r g with
      | some c => match navT c ps with
        | some _ => if ps.any PStep.isX then (match frzT S.r v with
          | some v' => match freezeTL S v.refs with
            | some S' => storeInT S' ti g ps v'.wk
            | none => none
          | none => none) else storeInT S ti g ps v
        | none => none
      | none => none
    | none => none
  | _ => none
theorem storeT_ok {T : TT} {S S' : TS} {t : Nat} {p v : TX} (h : storeT T S t p v = some (true, S')) : storeX T S.x t p.x v.x = some (.bot, S'.x) := by
  unfold storeT at h
  split at h
  · rename_i g ps
    split at h
    · rename_i ti ht
      split at h
      · rename_i c hg
        split at h
        · rename_i q hn
          have hg' : S.x.r g = some c.x := by simp [TS.x, rX, hg]
          have hin := inAr_ok hn
          simp only [storeX, TX.x, ht, hg', hin]
          split at h
          · rename_i hx
            rw [if_pos hx]
            split at h
            · rename_i v' hv
              split at h
              · rename_i S1 hS
                have hf : frw S.x.r v.x = some v'.wk.x := by
                  show frw (rX S.r) v.x = _
                  simp only [frw, frzT_ok hv, Option.map_some, wk_x]
                rw [hf, refs_x, freezeTL_ok hS]
                exact storeInT_ok h
              · cases h
            · cases h
          · rename_i hx
            rw [if_neg hx]
            exact storeInT_ok h
        · cases h
      · cases h
    · cases h
  · cases h
def moreT (r : Nat → Option TX) (td : Option TD) (y : TX) (τ : Ty) : Option (List τ.den) :=
  match td with
  | some (.sl _) => match y with
    | .s _ => none
    | .emp _ => some []
    | y => match elemsT r y with
      | some ⟨σ, vs⟩ => asTy σ vs τ
      | none => none
  | some .str => match y with
    | .s l => asTy .u8 l τ
    | _ => none
  | _ => none
theorem ofBytes_u8 (l : List (Ty.den .u8)) : ofBytes l = l.map (embX .u8) := rfl
theorem moreT_ok {r : Nat → Option TX} {td : Option TD} {y : TX} {τ : Ty} {ys : List τ.den} (h : moreT r td y τ = some ys) : moreX (rX r) td y.x = some (ys.map (embX τ)) := by
  unfold moreT at h
  split at h
  · split at h
    · cases h
    · cases h; simp [moreX, TX.x, elems]
    · rename_i n1 n2
      split at h
      · rename_i σ vs he
        have h1 := elemsT_ok he
        rw [(asTy_ok h).1] at h1
        cases y <;> first | (exact (n1 _ rfl).elim) | (exact (n2 _ rfl).elim) | (simp only [moreX, TX.x] at h1 ⊢; exact h1)
      · cases h
  · split at h
    · have h1 := (asTy_ok h).1
      simp only [moreX, TX.x]
      exact congrArg some ((ofBytes_u8 _).trans h1)
    · cases h
  · cases h
def growT (S : TS) (dst d : Nat) (τ : Ty) (c : List τ.den) : Option (TX × TS) :=
  match freeNT nlim S.r dst with
  | true => some (.hw dst, { S with r := upd S.r dst (some (.ar d τ c)) })
  | false => none
theorem growT_ok {S S' : TS} {dst d : Nat} {τ : Ty} {c : List τ.den} {z : TX} (h : growT S dst d τ c = some (z, S')) : growX S.x dst d (c.map (embX τ)) = some (z.x, S'.x) := by
  unfold growT at h
  split at h
  · rename_i hd
    cases h
    have : freeN nlim S.x.r dst = true := freeNT_ok hd
    simp only [growX, this, TX.x]
    simp only [TS.x, rX_upd, TX.x]
  · cases h
def addC (c : Bool) : Option (TX × TS) → Option (Bool × TX × TS)
  | some (x, S) => some (c, x, S)
  | none => none
theorem addC_ok {c : Bool} {q : Option (TX × TS)} {x : TX} {S : TS} (h : addC c q = some (true, x, S)) : c = true ∧ q = some (x, S) := by
  unfold addC at h
  split at h
  · cases h; exact ⟨rfl, rfl⟩
  · cases h
def appendT (T : TT) (Y : Nat → Option Ty) (S : TS) (dst : Nat) (ts : Array Nat) (x y : TX) : Option (Bool × TX × TS) :=
  match (ts[0]?).bind T with
  | some { td := .sl e, .. } => match T e, Y e with
    | some ei, some τ => match moreT S.r ((ts[1]?).bind fun t => tdOf T t) y τ with
      | some ys => if ei.bytes ≤ 65536 ∧ 0 < ei.bytes ∧ 0 < ei.size ∧ τ.size = ei.size then (match x with
        | .hw g => match S.r g with
          | some (.ar d σ c) => match asTy σ c τ with
            | some c => if d = ei.size then addC (decide (c.length + ys.length ≤ 2147483647)) (growT (dropIfT S (· == g)) dst d τ (c ++ ys)) else none
            | none => none
          | _ => none
        | .hd g lo len _ => match S.r g with
          | some (.ar d σ c) => match asTy σ c τ with
            | some c => if d = ei.size then addC (decide (len + ys.length ≤ 2147483647)) (growT (dropIfT S (· == g)) dst d τ ((List.drop lo c).take len ++ ys)) else none
            | none => none
          | _ => none
        | .sl true σ zs => match asTy σ zs τ with
          | some zs => addC (decide (zs.length + ys.length ≤ 2147483647) && (zs.isEmpty || !ys.isEmpty)) (growT S dst ei.size τ (zs ++ ys))
          | none => none
        | .emp true => addC (decide (ys.length ≤ 2147483647)) (growT S dst ei.size τ ys)
        | _ => none) else none
      | none => none
    | _, _ => none
  | _ => none
theorem appendT_ok {T : TT} {Y : Nat → Option Ty} {S S' : TS} {dst : Nat} {ts : Array Nat} {x y z : TX} (h : appendT T Y S dst ts x y = some (true, z, S')) : appendX T S.x dst ts x.x y.x = some (z.x, S'.x) := by
  unfold appendT at h
  unfold appendX
  split at h
  · rename_i e _ _ _ ht
    simp only [ht]
    split at h
    · rename_i ei τ he hY
      simp only [he]
      split at h
      · rename_i ys hy
        have hm : moreX S.x.r ((ts[1]?).bind fun t => tdOf T t) y.x = some (ys.map (embX τ)) := moreT_ok hy
        simp only [hm]
        split at h
        · rename_i hh
          rw [if_pos ⟨hh.1, hh.2.1, hh.2.2.1, by simp [List.all_eq_true, embX_size, hh.2.2.2]⟩]
          split at h
          · rename_i g
            split at h
            · rename_i d σ c0 hg
              split at h
              · rename_i c hc
                split at h
                · rename_i hd
                  obtain ⟨h1, h2⟩ := addC_ok h
                  have hg' : S.x.r g = some (.ar d (c.map (embX τ))) := by simp [TS.x, rX, hg, TX.x, (asTy_ok hc).1]
                  simp only [TX.x, hg']
                  rw [if_pos ⟨by simpa [small] using h1, hd⟩]
                  have := growT_ok h2
                  rw [List.map_append] at this
                  rw [show drop S.x g = (dropIfT S (· == g)).x from dropIfT_ok S _]
                  exact this
                · cases h
              · cases h
            · cases h
          · rename_i g lo len f
            split at h
            · rename_i d σ c0 hg
              split at h
              · rename_i c hc
                split at h
                · rename_i hd
                  obtain ⟨h1, h2⟩ := addC_ok h
                  have hg' : S.x.r g = some (.ar d (c.map (embX τ))) := by simp [TS.x, rX, hg, TX.x, (asTy_ok hc).1]
                  simp only [TX.x, hg']
                  rw [if_pos ⟨by simpa [small] using h1, hd⟩]
                  have := growT_ok h2
                  rw [List.map_append, List.map_take, List.map_drop] at this
                  rw [show drop S.x g = (dropIfT S (· == g)).x from dropIfT_ok S _]
                  exact this
                · cases h
              · cases h
            · cases h
          · rename_i σ zs0
            split at h
            · rename_i zs hz
              obtain ⟨h1, h2⟩ := addC_ok h
              simp only [Bool.and_eq_true] at h1
              have e1 := (asTy_ok hz).1
              simp only [TX.x, e1]
              rw [if_pos ⟨by simpa [small] using h1.1, by
                have := h1.2
                cases zs <;> cases ys <;> simp_all, by simp [List.all_eq_true, embX_size, hh.2.2.2]⟩]
              have := growT_ok h2
              rw [List.map_append] at this
              exact this
            · cases h
          · obtain ⟨h1, h2⟩ := addC_ok h
            simp only [TX.x]
            rw [if_pos ⟨by simpa [small] using h1, by simp, by simp⟩]
            have := growT_ok h2
            simpa using this
          · cases h
        · cases h
      · cases h
    · cases h
  · cases h
def spliceT {α : Type} (c : List α) (lo : Nat) (ys : List α) : List α := c.take lo ++ (ys ++ c.drop (lo + ys.length))
def copyInT (S : TS) (g lo len es : Nat) (τ : Ty) (ys : List τ.den) : Option (Bool × TX × TS) :=
  match S.r g with
  | some (.ar d σ c) => match asTy σ c τ with
    | some c => if d = es ∧ τ.size = es then some (decide (lo + len ≤ c.length), .i .i64 (min len ys.length : Nat), { S with r := upd S.r g (some (.ar d τ (spliceT c lo (List.take len ys)))) }) else none
    | none => none
  | _ => none
theorem copyInT_ok {S S' : TS} {g lo len es : Nat} {τ : Ty} {ys : List τ.den} {z : TX} (h : copyInT S g lo len es τ ys = some (true, z, S')) : copyIn S.x g lo len es (ys.map (embX τ)) = some (z.x, S'.x) := by
  unfold copyInT at h
  split at h
  · rename_i d σ c0 hg
    split at h
    · rename_i c hc
      split at h
      · rename_i hh
        simp only [Option.some.injEq, Prod.mk.injEq, decide_eq_true_eq] at h
        obtain ⟨h1, rfl, rfl⟩ := h
        have hg' : S.x.r g = some (.ar d (c.map (embX τ))) := by simp [TS.x, rX, hg, TX.x, (asTy_ok hc).1]
        simp only [copyIn, hg']
        have hall : ((ys.map (embX τ)).all fun z => z.size == es) = true := by simp [List.all_eq_true, embX_size, hh.2]
        have hl : lo + len ≤ (c.map (embX τ)).length := by simpa using h1
        rw [if_pos ⟨hh.1, hl, hall⟩]
        simp only [List.length_map, TX.x, Option.some.injEq, Prod.mk.injEq, true_and]
        simp only [TS.x, rX_upd, TX.x, spliceT, splice, List.map_append, List.map_take, List.map_drop, List.length_take, List.length_map]
      · cases h
    · cases h
  · cases h
def copyT (T : TT) (Y : Nat → Option Ty) (S : TS) (ts : Array Nat) (x y : TX) : Option (Bool × TX × TS) :=
  match (ts[0]?).bind T with
  | some { td := .sl e, .. } => match T e, Y e with
    | some ei, some τ => match moreT S.r ((ts[1]?).bind fun t => tdOf T t) y τ with
      | some ys => (match x with
        | .hw g => match S.r g with
          | some (.ar _ _ c) => copyInT S g 0 c.length ei.size τ ys
          | _ => none
        | .hd g lo len _ => copyInT S g lo len ei.size τ ys
        | _ => none)
      | none => none
    | _, _ => none
  | _ => none
theorem copyT_ok {T : TT} {Y : Nat → Option Ty} {S S' : TS} {ts : Array Nat} {x y z : TX} (h : copyT T Y S ts x y = some (true, z, S')) : copyX T S.x ts x.x y.x = some (z.x, S'.x) := by
  unfold copyT at h
  unfold copyX
  split at h
  · rename_i e _ _ _ ht
    simp only [ht]
    split at h
    · rename_i ei τ he hY
      simp only [he]
      split at h
      · rename_i ys hy
        have hm : moreX S.x.r ((ts[1]?).bind fun t => tdOf T t) y.x = some (ys.map (embX τ)) := moreT_ok hy
        simp only [hm]
        split at h
        · rename_i g
          split at h
          · rename_i d σ c hg
            have hg' : S.x.r g = some (.ar d (c.map (embX σ))) := by simp [TS.x, rX, hg, TX.x]
            simp only [TX.x, hg', List.length_map]
            exact copyInT_ok h
          · cases h
        · rename_i g lo len f
          simp only [TX.x]
          exact copyInT_ok h
        · cases h
      · cases h
    · cases h
  · cases h
def wipeInT (S : TS) (g lo len es : Nat) (τ : Ty) (z : τ.den) : Option (Bool × TX × TS) :=
  match S.r g with
  | some (.ar d σ c) => match asTy σ c τ with
    | some c => if d = es ∧ τ.size = es ∧ 0 < es then some (decide (lo + len ≤ c.length), .tup [], { S with r := upd S.r g (some (.ar d τ (spliceT c lo (List.replicate len z)))) }) else none
    | none => none
  | _ => none
theorem wipeInT_ok {S S' : TS} {g lo len es : Nat} {τ : Ty} {v : τ.den} {zx : X} (hv : embX τ v = zx) {z : TX} (h : wipeInT S g lo len es τ v = some (true, z, S')) : wipeIn S.x g lo len es zx = some (z.x, S'.x) := by
  unfold wipeInT at h
  split at h
  · rename_i d σ c0 hg
    split at h
    · rename_i c hc
      split at h
      · rename_i hh
        simp only [Option.some.injEq, Prod.mk.injEq, decide_eq_true_eq] at h
        obtain ⟨h1, rfl, rfl⟩ := h
        have hg' : S.x.r g = some (.ar d (c.map (embX τ))) := by simp [TS.x, rX, hg, TX.x, (asTy_ok hc).1]
        simp only [wipeIn, hg']
        have hl : lo + len ≤ (c.map (embX τ)).length := by simpa using h1
        rw [if_pos ⟨hh.1, hl, hh.2.2⟩]
        simp only [TX.x, txL, Option.some.injEq, Prod.mk.injEq, true_and]
        simp only [TS.x, rX_upd, TX.x, spliceT, splice, List.map_append, List.map_take, List.map_drop, List.length_replicate, List.map_replicate, hv]
      · cases h
    · cases h
  · cases h
def wipeT (T : TT) (Y : Nat → Option Ty) (S : TS) (ts : Array Nat) (x : TX) : Option (Bool × TX × TS) :=
  match (ts[0]?).bind T with
  | some { td := .sl e, .. } => match T e, Y e with
    | some ei, some τ => match elem0 T e τ with
      | some v => (match x with
        | .hw g => match S.r g with
          | some (.ar _ _ c) => wipeInT S g 0 c.length ei.size τ v
          | _ => none
        | .hd g lo len _ => wipeInT S g lo len ei.size τ v
        | _ => none)
      | none => none
    | _, _ => none
  | _ => none
theorem wipeT_ok {T : TT} {Y : Nat → Option Ty} {S S' : TS} {ts : Array Nat} {x z : TX} (h : wipeT T Y S ts x = some (true, z, S')) : wipeX T S.x ts x.x = some (z.x, S'.x) := by
  unfold wipeT at h
  unfold wipeX
  split at h
  · rename_i e _ _ _ ht
    simp only [ht]
    split at h
    · rename_i ei τ he hY
      simp only [he]
      split at h
      · rename_i v hv
        split at h
        · rename_i g
          split at h
          · rename_i d σ c hg
            have hg' : S.x.r g = some (.ar d (c.map (embX σ))) := by simp [TS.x, rX, hg, TX.x]
            simp only [TX.x, hg', List.length_map]
            exact wipeInT_ok (elem0_ok he hv) h
          · cases h
        · rename_i g lo len f
          simp only [TX.x]
          exact wipeInT_ok (elem0_ok he hv) h
        · cases h
      · cases h
    · cases h
  · cases h
end Go.EV
