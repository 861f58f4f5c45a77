/- Chapter 40: the law VoteNews. -/
import Derived.Test.YtehjeifbgegabaaVoteF
set_option linter.unusedVariables false
set_option linter.unusedSimpArgs false
set_option maxRecDepth 100000
set_option maxHeartbeats 1000000
namespace Go.Proofs.Ytehjeifbgegabaa.EVT
open Go Go.EV
attribute [local simp] finF outX evC_skip evC_region thenX_go thenX_ret thenX_exit evC_seq condX_t condX_f evC_cond blockX_go blockX_ret blockX_exit evC_block evC_loop evC_exit evC_ret runOps runD chkS readsR stepD qD mkR wantedX opStep isEff opq x1 x2 x3 q1 intX freezeL freeze addR put dstOf upd St.ev ofConst binv arith strop unv pickX resX leave reiL reiX rei frzL frz oneX tdOf Op.operands Option.bind X.refs refsL an enterX imp impL eff storeX storeIn nav setAt inAr fits X.size sizeL X.agg X.isBot X.isTup X.arD TD.agg buildX fillX ldV fldA fldV offs buildSlX sliceX idxA idxV lenV lenX elems callX X.flat flatL Call.operands T3 T4 T22 T24 T26 T34 T37 firstReg LoopOk loopStep nrmLa adoptL adopt dropIf keepT keepR X.kill killL is_len is_get
theorem example_ok : E 30 7 [] = some (.b true, []) := by kernel_rfl
theorem int_of_ty {n : Nat} {x : X} (h : HasTy T (n + 1) 3 x) : ∃ m, x = .i .i64 m ∧ (Lit.int .i64 m).wf = true := by
  exact ty_int T3 h
theorem ints_of_ty {n : Nat} : ∀ {xs : List X}, (∀ y ∈ xs, HasTy T (n + 1) 3 y) → ∃ vs, xs = is vs
  | [], _ => ⟨[], rfl⟩
  | x :: xs, h => by
    obtain ⟨m, rfl, _⟩ := int_of_ty (h x (by simp))
    obtain ⟨vs, rfl⟩ := ints_of_ty (n := n) (xs := xs) fun y hy => h y (by simp [hy])
    exact ⟨m :: vs, rfl⟩
theorem ballot_of_ty {n : Nat} {x : X} (h : HasTy T (n + 3) 24 x) : ∃ a b c d e f vs, x = bl a b c d e f (.sl false (is vs)) ∧ vs.length ≤ maxLen := by
  obtain ⟨xs, rfl, hl, hx⟩ := ty_st T24 h
  match xs, hl with
  | [x0, x1, x2, x3, x4, x5, x6], _ =>
    obtain ⟨a, rfl, _⟩ := int_of_ty (n := n + 1) (hx 0 3 x0 rfl rfl)
    obtain ⟨b, rfl, _⟩ := int_of_ty (n := n + 1) (hx 1 3 x1 rfl rfl)
    obtain ⟨c, rfl, _⟩ := int_of_ty (n := n + 1) (hx 2 3 x2 rfl rfl)
    obtain ⟨d, rfl, _⟩ := int_of_ty (n := n + 1) (hx 3 3 x3 rfl rfl)
    obtain ⟨e, rfl, _⟩ := int_of_ty (n := n + 1) (hx 4 3 x4 rfl rfl)
    obtain ⟨f, rfl, _⟩ := int_of_ty (n := n + 1) (hx 5 3 x5 rfl rfl)
    obtain ⟨ys, rfl, hlen, hy⟩ := ty_sl T22 (hx 6 22 x6 rfl rfl)
    obtain ⟨vs, rfl⟩ := ints_of_ty hy
    exact ⟨a, b, c, d, e, f, vs, rfl, by simpa using hlen⟩
theorem same_nil (a b c d e f : Int) : E 30 10 [bl a b c d e f (.sl true []), bl a b c d e f (.sl true [])] = some (.b true, []) := by
  have := same_ok (k := 30) (a := a) (b := b) (c := c) (d := d) (e := e) (f := f) (a' := a) (b' := b) (c' := c) (d' := d) (e' := e) (f' := f) (us := []) (vs := []) (f1 := true) (f2 := true) (by simp [maxLen]) (by simp)
  simpa [sameB, is] using this
theorem news {nd ns a b c d e f : Int} {vs : List Int} (hlen : vs.length ≤ maxLen) : E 31 3 [.i .i64 nd, .i .i64 ns, bl a b c d e f (.sl false (is vs))] = some (.b true, []) := by
  rw [E_body (c := _) fns3 rfl rfl rfl]
  have hex := example_ok
  have h1 := new_ok (k := 30) (by omega) nd ns
  have h2 := refNew_ok (k := 30) (by omega) nd ns
  by_cases hl : (vs.length : Int) > 20
  · unfold bl
    simp [Try.f3, hl, hex]
  have hl2 : vs.length ≤ 20 := by omega
  have h3 := check_ok (k := 30) (nd := a) (ns := b) (tm := c) (rl := d) (vd := e) (ld := f) (vs := vs) (fl := false) hlen (by omega)
  have h4 := refCheck_ok (k := 30) (nd := a) (ns := b) (tm := c) (rl := d) (vd := e) (ld := f) (vs := vs) (fl := false) hlen (by omega)
  unfold newR at h1 h2
  have h5 := same_nil
  unfold bl at *
  split at h1
  · rename_i hN
    rw [if_pos hN] at h2
    simp [Try.f3, hl, hex, h1, h2, h3, h4, h5]
  · rename_i hN
    rw [if_neg hN] at h2
    simp [Try.f3, hl, hex, h1, h2, h3, h4, h5]
theorem VoteNews {x0 x1 x2 : X} (h0 : HasTy T 3 3 x0) (h1 : HasTy T 3 3 x1) (h2 : HasTy T 3 24 x2) : ∃ k, E k 3 [x0, x1, x2] = some (.b true, []) := by
  obtain ⟨nd, rfl, _⟩ := int_of_ty h0
  obtain ⟨ns, rfl, _⟩ := int_of_ty h1
  obtain ⟨a, b, c, d, e, f, vs, rfl, hlen⟩ := ballot_of_ty (n := 0) h2
  exact ⟨31, news hlen⟩
end Go.Proofs.Ytehjeifbgegabaa.EVT
