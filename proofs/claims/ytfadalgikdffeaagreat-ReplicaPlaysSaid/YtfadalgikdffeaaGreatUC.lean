/- slices.Clone: what it computes. -/
import Derived.Test.YtfadalgikdffeaaGreatTv13
import Derived.Test.YtfadalgikdffeaaGreatUT
set_option linter.unusedVariables false
set_option linter.unusedSimpArgs false
set_option maxRecDepth 100000
set_option maxHeartbeats 1000000
namespace Go.Proofs.YtfadalgikdffeaaGreat.EVT
open Go Go.EV
theorem fnOk_of {P : Program} {call : FuncId → List X → Option (X × List X)} (hc : CallOk P call) {f : FuncId} {inf : FI} (hio : hasIo (mdL inf.ps) = false) (h : ∀ a v, inf.G a = some v → call f (mkP inf.ps a) = some (embR inf.rs (pairD.fst _ v), [])) : FnOk P f inf := by
  intro a v hv w F vs bi hvs hnd hbi hF
  obtain ⟨h1, h2⟩ := hc f _ _ _ (h a v hv) w F vs bi hvs hnd hbi hF
  refine ⟨h1, h2.mono ?_⟩
  rintro e w' ⟨u, rfl, F', bs, bo, k1, k2, k3, k4⟩
  simp only [RoB] at k3
  subst k3
  exact ⟨u, rfl, F', bs, [], k1, k2, roB_bots (outEmb_bots _ hio) (by rw [outEmb_len, roVL_len hvs, mkP_len]), k4⟩
def anC : FuncId → An := fun _ => { sp := true }
def anD : FuncId → An := fun _ => { sp := true, fr := true }
theorem TC25 : T 25 = some ⟨.sl 55, 1, 24, .sl true []⟩ := by kernel_rfl
theorem TC55 : T 55 = some ⟨.st [3, 9], 2, 24, .ag [.i .i64 0, .s []]⟩ := by kernel_rfl
theorem TC4 : T 4 = some ⟨.bool, 1, 1, .b false⟩ := by kernel_rfl
noncomputable def EC56 : Nat → FuncId → List X → Option (X × List X) := evF T anC (fun _ _ S => some S) (fnsOf Tryz.prog [56])
theorem EC56_ok (k : Nat) : CallOk Tryz.prog (EC56 k) := evF_ok mixed tok.1 tok.2 (dom := [56]) (List.all_eq_true.1 (by kernel_rfl)) (fun _ _ => nrm_id) k
theorem fnsC56 : fnsOf Tryz.prog [56] 56 = some Tryz.f56 := by kernel_rfl
theorem cl56 (xs : List X) (ha : ∀ x ∈ xs, x.size = 2) (hlen : xs.length ≤ 2147483647) : EC56 1 56 [.sl false xs] = some (.ow 2 xs, []) := by
  have h0 : EC56 1 56 [.sl false xs] = _ := evF_sp (c := _) fnsC56 rfl rfl rfl
  rw [h0]
  cases xs with
  | nil => simp [finF, outX, evC_skip, evC_region, thenX_go, thenX_ret, evC_seq, condX_t, condX_f, evC_cond, evC_ret, runOps, wantedX, opStep, isEff, opq, x1, x2, x3, q1, intX, freezeL, freeze, addR, freeN, nlim, put, dstOf, upd, St.ev, ofConst, resX, leave, reiL, reiX, rei, oneX, tdOf, Op.operands, Option.bind, X.refs, refsL, anC, imp, impL, enterX, eff, fits, X.size, sizeL, buildSlX, sliceX, cut, optX, elems, Call.operands, TC25, TC55, TC4, evSp, spRest, joinX, appendX, moreX, growX, drop, dropIf, small, bounds, maxOk, X.kill, killL, Tryz.f56]
  | cons x xs =>
    simp only [List.length_cons] at hlen
    have hx : x.size = 2 := ha x (by simp)
    have hxs : ∀ y ∈ xs, y.size = 2 := fun y hy => ha y (by simp [hy])
    simp [finF, outX, evC_skip, evC_region, thenX_go, thenX_ret, evC_seq, condX_t, condX_f, evC_cond, evC_ret, runOps, wantedX, opStep, isEff, opq, x1, x2, x3, q1, intX, freezeL, freeze, addR, freeN, nlim, put, dstOf, upd, St.ev, ofConst, resX, leave, reiL, reiX, rei, oneX, tdOf, Op.operands, Option.bind, X.refs, refsL, anC, imp, impL, enterX, eff, fits, X.size, sizeL, buildSlX, sliceX, cut, optX, elems, Call.operands, TC25, TC55, TC4, evSp, spRest, joinX, appendX, moreX, growX, drop, dropIf, small, bounds, maxOk, X.kill, killL, Tryz.f56, hlen, hx]
    rw [if_pos hxs]
    simp [finF, outX, thenX_go, thenX_ret, evC_seq, evC_ret, upd, X.kill, resX, leave, reiL, reiX, rei, oneX, anC, put]
def g56 (a0 : List (Int × List UInt8)) : Option (List (Int × List UInt8)) := cond (decide (a0.length ≤ 2147483647)) (some a0) none
def i56 : FI := ⟨[.d (.sl (.st (.pr (.i .i64) .s)))], .ow 2 (.st (.pr (.i .i64) .s)), fun a0 => g56 a0⟩
theorem k56 : FnOk Tryz.prog 56 i56 := fnOk_of (EC56_ok 1) rfl fun (a : List (Ty.den (.st (.pr (.i .i64) .s)))) v h => by
  have h' : cond (decide (List.length a ≤ 2147483647)) (some a) none = some v := h
  obtain ⟨h1, h2⟩ := cond_some h'
  cases h2
  exact cl56 (List.map (embX (.st (.pr (.i .i64) .s))) a) (fun x hx => by obtain ⟨y, _, rfl⟩ := List.mem_map.1 hx; exact embX_size _ y) (by rw [List.length_map]; simpa using h1)
theorem TC22 : T 22 = some ⟨.sl 3, 1, 24, .sl true []⟩ := by kernel_rfl
theorem TC3 : T 3 = some ⟨.int .i64, 1, 8, .i .i64 0⟩ := by kernel_rfl
noncomputable def EC64 : Nat → FuncId → List X → Option (X × List X) := evF T anC (fun _ _ S => some S) (fnsOf Tryz.prog [64])
theorem EC64_ok (k : Nat) : CallOk Tryz.prog (EC64 k) := evF_ok mixed tok.1 tok.2 (dom := [64]) (List.all_eq_true.1 (by kernel_rfl)) (fun _ _ => nrm_id) k
theorem fnsC64 : fnsOf Tryz.prog [64] 64 = some Tryz.f64 := by kernel_rfl
theorem cl64 (xs : List X) (ha : ∀ x ∈ xs, x.size = 1) (hlen : xs.length ≤ 2147483647) : EC64 1 64 [.sl false xs] = some (.ow 1 xs, []) := by
  have h0 : EC64 1 64 [.sl false xs] = _ := evF_sp (c := _) fnsC64 rfl rfl rfl
  rw [h0]
  cases xs with
  | nil => simp [finF, outX, evC_skip, evC_region, thenX_go, thenX_ret, evC_seq, condX_t, condX_f, evC_cond, evC_ret, runOps, wantedX, opStep, isEff, opq, x1, x2, x3, q1, intX, freezeL, freeze, addR, freeN, nlim, put, dstOf, upd, St.ev, ofConst, resX, leave, reiL, reiX, rei, oneX, tdOf, Op.operands, Option.bind, X.refs, refsL, anC, imp, impL, enterX, eff, fits, X.size, sizeL, buildSlX, sliceX, cut, optX, elems, Call.operands, TC22, TC3, TC4, evSp, spRest, joinX, appendX, moreX, growX, drop, dropIf, small, bounds, maxOk, X.kill, killL, Tryz.f64]
  | cons x xs =>
    simp only [List.length_cons] at hlen
    have hx : x.size = 1 := ha x (by simp)
    have hxs : ∀ y ∈ xs, y.size = 1 := fun y hy => ha y (by simp [hy])
    simp [finF, outX, evC_skip, evC_region, thenX_go, thenX_ret, evC_seq, condX_t, condX_f, evC_cond, evC_ret, runOps, wantedX, opStep, isEff, opq, x1, x2, x3, q1, intX, freezeL, freeze, addR, freeN, nlim, put, dstOf, upd, St.ev, ofConst, resX, leave, reiL, reiX, rei, oneX, tdOf, Op.operands, Option.bind, X.refs, refsL, anC, imp, impL, enterX, eff, fits, X.size, sizeL, buildSlX, sliceX, cut, optX, elems, Call.operands, TC22, TC3, TC4, evSp, spRest, joinX, appendX, moreX, growX, drop, dropIf, small, bounds, maxOk, X.kill, killL, Tryz.f64, hlen, hx]
    rw [if_pos hxs]
    simp [finF, outX, thenX_go, thenX_ret, evC_seq, evC_ret, upd, X.kill, resX, leave, reiL, reiX, rei, oneX, anC, put]
def g64 (a0 : List (Int)) : Option (List (Int)) := cond (decide (a0.length ≤ 2147483647)) (some a0) none
def i64 : FI := ⟨[.d (.sl (.i .i64))], .ow 1 (.i .i64), fun a0 => g64 a0⟩
theorem k64 : FnOk Tryz.prog 64 i64 := fnOk_of (EC64_ok 1) rfl fun (a : List (Ty.den (.i .i64))) v h => by
  have h' : cond (decide (List.length a ≤ 2147483647)) (some a) none = some v := h
  obtain ⟨h1, h2⟩ := cond_some h'
  cases h2
  exact cl64 (List.map (embX (.i .i64)) a) (fun x hx => by obtain ⟨y, _, rfl⟩ := List.mem_map.1 hx; exact embX_size _ y) (by rw [List.length_map]; simpa using h1)
noncomputable def EC56000 : Nat → FuncId → List X → Option (X × List X) := evF T anD (fun _ _ S => some S) (fnsOf Tryz.prog [56])
theorem EC56000_ok (k : Nat) : CallOk Tryz.prog (EC56000 k) := evF_ok mixed tok.1 tok.2 (dom := [56]) (List.all_eq_true.1 (by kernel_rfl)) (fun _ _ => nrm_id) k
theorem fnsC56000 : fnsOf Tryz.prog [56] 56 = some Tryz.f56 := by kernel_rfl
theorem cl56000 (xs : List X) (ha : ∀ x ∈ xs, x.size = 2) (hlen : xs.length ≤ 2147483647) : EC56000 1 56 [.sl false xs] = some (.sl false xs, []) := by
  have h0 : EC56000 1 56 [.sl false xs] = _ := evF_sp (c := _) fnsC56000 rfl rfl rfl
  rw [h0]
  cases xs with
  | nil => simp [finF, outX, evC_skip, evC_region, thenX_go, thenX_ret, evC_seq, condX_t, condX_f, evC_cond, evC_ret, runOps, wantedX, opStep, isEff, opq, x1, x2, x3, q1, intX, freezeL, freeze, addR, freeN, nlim, put, dstOf, upd, St.ev, ofConst, resX, leave, reiL, reiX, frzL, frz, rei, oneX, tdOf, Op.operands, Option.bind, X.refs, refsL, anD, imp, impL, enterX, eff, fits, X.size, sizeL, buildSlX, sliceX, cut, optX, elems, Call.operands, TC25, TC55, TC4, evSp, spRest, joinX, appendX, moreX, growX, drop, dropIf, small, bounds, maxOk, X.kill, killL, Tryz.f56]
  | cons x xs =>
    simp only [List.length_cons] at hlen
    have hx : x.size = 2 := ha x (by simp)
    have hxs : ∀ y ∈ xs, y.size = 2 := fun y hy => ha y (by simp [hy])
    simp [finF, outX, evC_skip, evC_region, thenX_go, thenX_ret, evC_seq, condX_t, condX_f, evC_cond, evC_ret, runOps, wantedX, opStep, isEff, opq, x1, x2, x3, q1, intX, freezeL, freeze, addR, freeN, nlim, put, dstOf, upd, St.ev, ofConst, resX, leave, reiL, reiX, frzL, frz, rei, oneX, tdOf, Op.operands, Option.bind, X.refs, refsL, anD, imp, impL, enterX, eff, fits, X.size, sizeL, buildSlX, sliceX, cut, optX, elems, Call.operands, TC25, TC55, TC4, evSp, spRest, joinX, appendX, moreX, growX, drop, dropIf, small, bounds, maxOk, X.kill, killL, Tryz.f56, hlen, hx]
    rw [if_pos hxs]
    simp [finF, outX, thenX_go, thenX_ret, evC_seq, evC_ret, upd, X.kill, resX, leave, reiL, reiX, frzL, frz, rei, oneX, anD, put]
def g56000 (a0 : List (Int × List UInt8)) : Option (List (Int × List UInt8)) := cond (decide (a0.length ≤ 2147483647)) (some a0) none
def i56000 : FI := ⟨[.d (.sl (.st (.pr (.i .i64) .s)))], .ty (.sl (.st (.pr (.i .i64) .s))), fun a0 => g56000 a0⟩
theorem k56000 : FnOk Tryz.prog 56 i56000 := fnOk_of (EC56000_ok 1) rfl fun (a : List (Ty.den (.st (.pr (.i .i64) .s)))) v h => by
  have h' : cond (decide (List.length a ≤ 2147483647)) (some a) none = some v := h
  obtain ⟨h1, h2⟩ := cond_some h'
  cases h2
  exact cl56000 (List.map (embX (.st (.pr (.i .i64) .s))) a) (fun x hx => by obtain ⟨y, _, rfl⟩ := List.mem_map.1 hx; exact embX_size _ y) (by rw [List.length_map]; simpa using h1)
end Go.Proofs.YtfadalgikdffeaaGreat.EVT
