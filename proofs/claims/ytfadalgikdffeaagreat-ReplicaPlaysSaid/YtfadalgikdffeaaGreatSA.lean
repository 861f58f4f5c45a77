/- Chapter 40: ballots, in plain words: what is asked of them, what the calls answer. -/
import Derived.Test.YtfadalgikdffeaaGreatTv13
import Derived.Test.YtfadalgikdffeaaGreatUA
import Derived.Test.YtfadalgikdffeaaGreatUB
import Derived.Test.YtfadalgikdffeaaGreatUE
set_option linter.unusedVariables false
set_option linter.unusedSimpArgs false
namespace Go.Proofs.YtfadalgikdffeaaGreat.EVT
open Go Go.EV
def quo (a b : Int) : Bool := decide (1 ≤ b) && decide (a > b / 2)
def cons (nd ns tm rl vd ld : Int) (vs : List Int) : Bool :=
  !(tm == 0 && (rl != 0 || vd != -1 || ld != -1)) &&
  (if (rl == 1) = true then vd == nd && ld == -1 && decide (nd ∈ vs) && !quo vs.length ns
   else if (rl == 2) = true then vd == nd && ld == nd && ((vs.length : Int) == 0)
   else ((vs.length : Int) == 0) && ld != nd)
def leP : Int → Option Int → Bool
  | v, some q => decide (v ≤ q)
  | _, none => false
/-- The votes, one after the other. -/
def vchk (ns : Int) : Option Int → List Int → Int
  | _, [] => 0
  | p, v :: r => if v < 0 ∨ v ≥ ns then 1 else if leP v p then 22 else vchk ns (some v) r
def pv (vs : List Int) : Nat → Option Int
  | 0 => none
  | i + 1 => vs[i]?
def okN (nd ns : Int) : Prop := 1 ≤ ns ∧ ns ≤ 7 ∧ 0 ≤ nd ∧ nd < ns
instance (nd ns : Int) : Decidable (okN nd ns) := by unfold okN; infer_instance
def chk (nd ns tm rl vd ld : Int) (vs : List Int) : Int :=
  if ¬ okN nd ns then 1 else if tm < 0 ∨ tm > 1099511627776 then 1 else if rl ≠ 0 ∧ rl ≠ 1 ∧ rl ≠ 2 then 10
  else if vd < -1 ∨ vd ≥ ns ∨ ld < -1 ∨ ld ≥ ns then 1 else if vchk ns none vs ≠ 0 then vchk ns none vs else if cons nd ns tm rl vd ld vs = true then 0 else 9
theorem vchk_of {ns : Int} : ∀ {vs : List Int} {p : Option Int}, vchk ns p vs = 0 → (∀ v ∈ vs, 0 ≤ v ∧ v < ns) ∧ vs.Pairwise (· < ·) ∧ ∀ q, p = some q → ∀ v ∈ vs, q < v
  | [], p, _ => by simp
  | v :: r, p, h => by
    rw [vchk] at h
    split at h
    · cases h
    · rename_i h1
      split at h
      · cases h
      · rename_i h2
        obtain ⟨a1, a2, a3⟩ := vchk_of h
        have a4 := a3 v rfl
        refine ⟨fun x hx => ?_, List.pairwise_cons.2 ⟨a4, a2⟩, fun q hq x hx => ?_⟩
        · rcases List.mem_cons.1 hx with rfl | hx
          · omega
          · exact a1 x hx
        · subst hq
          simp only [leP, decide_eq_true_eq] at h2
          rcases List.mem_cons.1 hx with rfl | hx
          · omega
          · have := a4 x hx; omega
theorem vchk_mk {ns : Int} : ∀ {vs : List Int} {p : Option Int}, (∀ v ∈ vs, 0 ≤ v ∧ v < ns) → vs.Pairwise (· < ·) → (∀ q, p = some q → ∀ v ∈ vs, q < v) → vchk ns p vs = 0
  | [], p, _, _, _ => rfl
  | v :: r, p, h1, h2, h3 => by
    rw [vchk, if_neg (by have := h1 v (by simp); omega), if_neg]
    · exact vchk_mk (fun x hx => h1 x (by simp [hx])) (List.pairwise_cons.1 h2).2 (fun q hq x hx => by cases hq; exact (List.pairwise_cons.1 h2).1 x hx)
    · cases p with
      | none => simp [leP]
      | some q => have := h3 q rfl v (by simp); simp [leP]; omega
theorem len_le {n : Nat} : ∀ {vs : List Int} {lo : Int}, 0 ≤ lo → (∀ v ∈ vs, lo ≤ v ∧ v < n) → vs.Pairwise (· < ·) → vs.length + lo ≤ n ∨ vs = []
  | [], lo, _, _, _ => .inr rfl
  | v :: r, lo, h0, h1, h2 => by
    have hv := h1 v (by simp)
    have hp := List.pairwise_cons.1 h2
    rcases len_le (n := n) (vs := r) (lo := v + 1) (by omega) (fun x hx => ⟨by have := hp.1 x hx; omega, (h1 x (by simp [hx])).2⟩) hp.2 with h | h
    · left; simp only [List.length_cons]; omega
    · subst h; left; simp; omega
theorem votes_len {ns : Int} {vs : List Int} (hns : 1 ≤ ns ∧ ns ≤ 7) (h : vchk ns none vs = 0) : vs.length ≤ 7 := by
  obtain ⟨a1, a2, _⟩ := vchk_of h
  rcases len_le (n := ns.toNat) (lo := 0) (by omega) (fun v hv => by have := a1 v hv; omega) a2 with h | h
  · omega
  · subst h; simp
def markF (fr : Int) (vs : List Int) (n : Nat) : Bool := vs.any (fun v => n == v.toNat) || n == fr.toNat
def selI (f : Nat → Bool) (j : Nat) : List Int := ((List.range j).filter f).map fun (n : Nat) => (n : Int)
def cntVs (fr : Int) (vs : List Int) : List Int := selI (markF fr vs) 7
def newer (lpr lix pr ix : Int) : Bool := decide (lpr > pr) || (lpr == pr && decide (lix ≥ ix))
def yesA (tm vd fr te lpr lix pr ix : Int) : Bool := te == tm && (vd == -1 || vd == fr) && newer lpr lix pr ix
theorem chk_iff {nd ns tm rl vd ld : Int} {vs : List Int} : chk nd ns tm rl vd ld vs = 0 ↔ okN nd ns ∧ (0 ≤ tm ∧ tm ≤ 1099511627776) ∧ (rl = 0 ∨ rl = 1 ∨ rl = 2) ∧ (-1 ≤ vd ∧ vd < ns ∧ -1 ≤ ld ∧ ld < ns) ∧ vchk ns none vs = 0 ∧ cons nd ns tm rl vd ld vs = true := by
  unfold chk
  constructor
  · intro h
    split at h
    · omega
    rename_i h1
    split at h
    · omega
    split at h
    · omega
    split at h
    · omega
    split at h
    · rename_i h5; exact absurd h h5
    rename_i h5
    split at h
    · rename_i h6
      exact ⟨by simpa using h1, by omega, by omega, by omega, by simpa using h5, h6⟩
    · omega
  · rintro ⟨h1, h2, h3, h4, h5, h6⟩
    rw [if_neg (by simpa using h1), if_neg (by omega), if_neg (by omega), if_neg (by omega), if_neg (by simpa using h5), if_pos h6]
theorem chk_follow {nd ns t : Int} (h : okN nd ns) (h1 : 1 ≤ t ∧ t ≤ 1099511627776) (vd : Int) (h2 : -1 ≤ vd ∧ vd < ns) : chk nd ns t 0 vd (-1) [] = 0 := by
  have hh := h
  unfold okN at hh
  refine chk_iff.2 ⟨h, by omega, .inl rfl, by omega, rfl, ?_⟩
  have e1 : (t == 0) = false := by simp; omega
  have e2 : ((-1 : Int) != nd) = true := by simp; omega
  simp [cons, e1, e2]
theorem chk_leads {nd ns t : Int} (h : okN nd ns) (h1 : 1 ≤ t ∧ t ≤ 1099511627776) : chk nd ns t 2 nd nd [] = 0 := by
  have hh := h
  unfold okN at hh
  refine chk_iff.2 ⟨h, by omega, .inr (.inr rfl), by omega, rfl, ?_⟩
  have e1 : (t == 0) = false := by simp; omega
  simp [cons, e1]
theorem chk_stands {nd ns t : Int} (h : okN nd ns) (h0 : ns ≠ 1) (h1 : 1 ≤ t ∧ t ≤ 1099511627776) : chk nd ns t 1 nd (-1) [nd] = 0 := by
  have hh := h
  unfold okN at hh
  have hv : vchk ns none [nd] = 0 := vchk_mk (by simp; omega) (by simp) (by simp)
  refine chk_iff.2 ⟨h, by omega, .inr (.inl rfl), by omega, hv, ?_⟩
  have e1 : (t == 0) = false := by simp; omega
  have e2 : quo ([nd].length : Int) ns = false := by simp [quo]; omega
  simp [cons, e1]
  simpa using e2
theorem cntVs_mem {fr : Int} {vs : List Int} {x : Int} : x ∈ cntVs fr vs ↔ ∃ n : Nat, n < 7 ∧ markF fr vs n = true ∧ x = n := by
  unfold cntVs selI
  simp only [List.mem_map, List.mem_filter, List.mem_range]
  constructor
  · rintro ⟨n, ⟨h1, h2⟩, rfl⟩; exact ⟨n, h1, h2, rfl⟩
  · rintro ⟨n, h1, h2, rfl⟩; exact ⟨n, ⟨h1, h2⟩, rfl⟩
theorem cntVs_ok {ns fr : Int} {vs : List Int} (hns : 1 ≤ ns ∧ ns ≤ 7) (hf : 0 ≤ fr ∧ fr < ns) (hv : ∀ v ∈ vs, 0 ≤ v ∧ v < ns) : vchk ns none (cntVs fr vs) = 0 := by
  refine vchk_mk (fun x hx => ?_) ?_ (by simp)
  · obtain ⟨n, h1, h2, rfl⟩ := cntVs_mem.1 hx
    unfold markF at h2
    simp only [Bool.or_eq_true, List.any_eq_true, beq_iff_eq] at h2
    rcases h2 with ⟨v, h2, h3⟩ | h2
    · have := hv v h2; omega
    · omega
  · unfold cntVs selI
    refine List.Pairwise.map _ (R := fun a b : Nat => a < b) (fun a b h => by omega) ?_
    exact List.Pairwise.filter _ List.pairwise_lt_range
theorem cntVs_has {ns fr nd : Int} {vs : List Int} (hns : 1 ≤ ns ∧ ns ≤ 7) (hv : ∀ v ∈ vs, 0 ≤ v ∧ v < ns) (h : nd ∈ vs) : nd ∈ cntVs fr vs := by
  have := hv nd h
  refine cntVs_mem.2 ⟨nd.toNat, by omega, ?_, by omega⟩
  unfold markF
  simp only [Bool.or_eq_true, List.any_eq_true, beq_iff_eq]
  exact .inl ⟨nd, h, rfl⟩
theorem chk_counted {nd ns tm vd ld fr : Int} {vs : List Int} (h : chk nd ns tm 1 vd ld vs = 0) (hf : 0 ≤ fr ∧ fr < ns) : (quo (cntVs fr vs).length ns = true → chk nd ns tm 2 vd nd [] = 0) ∧ (quo (cntVs fr vs).length ns = false → chk nd ns tm 1 vd ld (cntVs fr vs) = 0) := by
  obtain ⟨h1, h2, h3, h4, h5, h6⟩ := chk_iff.1 h
  have hh := h1
  unfold okN at hh
  obtain ⟨a1, a2, _⟩ := vchk_of h5
  simp only [cons, Bool.and_eq_true, Bool.not_eq_true'] at h6
  obtain ⟨b1, b2⟩ := h6
  rw [if_pos (by decide)] at b2
  simp only [Bool.and_eq_true, beq_iff_eq, decide_eq_true_eq, Bool.not_eq_true'] at b2
  obtain ⟨⟨⟨rfl, rfl⟩, b3⟩, b4⟩ := b2
  have ht : tm ≠ 0 := by
    intro e
    subst e
    simp at b1
  have e1 : (tm == 0) = false := by simp [ht]
  refine ⟨fun _ => chk_leads h1 (by omega), fun hq => ?_⟩
  have hm := cntVs_has (fr := fr) (by omega : 1 ≤ ns ∧ ns ≤ 7) a1 b3
  refine chk_iff.2 ⟨h1, h2, h3, h4, cntVs_ok (by omega) hf a1, ?_⟩
  simp [cons, e1, hm, hq]
theorem chk_votes {nd ns tm rl ld fr : Int} {vs : List Int} (h : chk nd ns tm rl (-1) ld vs = 0) (hf : 0 ≤ fr ∧ fr < ns) (ht : 1 ≤ tm) : chk nd ns tm rl fr ld vs = 0 := by
  obtain ⟨h1, h2, h3, h4, h5, h6⟩ := chk_iff.1 h
  have hh := h1
  unfold okN at hh
  have e1 : (tm == 0) = false := by simp; omega
  have e2 : ((-1 : Int) == nd) = false := by simp; omega
  refine chk_iff.2 ⟨h1, h2, h3, by omega, h5, ?_⟩
  rcases h3 with rfl | rfl | rfl
  · simp [cons, e1] at h6 ⊢
    exact h6
  · simp [cons, e1, e2] at h6
  · simp [cons, e1, e2] at h6
end Go.Proofs.YtfadalgikdffeaaGreat.EVT
/- Chapter 40: the printed checks answer as told. -/
set_option linter.unusedVariables false
set_option linter.unusedSimpArgs false
namespace Go.Proofs.YtfadalgikdffeaaGreat.EVT
open Go Go.EV
theorem wrap_in {n : Int} (h : -9223372036854775808 ≤ n ∧ n ≤ 9223372036854775807) : IntKind.i64.wrap n = n := IntWalk.i64_in _ h
theorem fuel_big {n : Nat} (h : n ≤ maxLen) : n < fuel := by
  unfold maxLen at h; rw [fuel_eq]; omega
theorem g59_eq (a b c : Int) : g59 a b c = some (decide (b ≤ a) && decide (a ≤ c)) := by
  unfold g59; by_cases h : b ≤ a <;> simp [h]
theorem g71_eq (a b : Int) (hb : b ≤ 9223372036854775807) : g71 a b = some (quo a b) := by
  unfold g71 quo
  by_cases h1 : b ≥ 1
  · have h2 : b.tdiv 2 = b / 2 := Int.tdiv_eq_ediv_of_nonneg (by omega)
    simp [h1, h2, wrap_in (n := b / 2) (by omega)]
  · simp [h1]
theorem g72_eq (a b : Int) (hb : b ≤ 9223372036854775807) : g72 a b = some (quo a b) := g71_eq a b hb
theorem getD_at {α : Type} {l : List α} {j : Nat} (d : α) (h : j < l.length) : l.getD j d = l[j] := by simp [List.getD_eq_getElem?_getD, h]
theorem loop44 (vs : List Int) (x : Int) (hl : vs.length ≤ maxLen) : ∀ (k j n : Nat), k + j = vs.length → k < n → ∃ o, loopN st83_0 n ((vs, x, (vs.length : Int), (j : Int)), ()) = some o ∧ (x ∈ vs.drop j → ∃ i : Nat, o = .inr (i : Int)) ∧ (x ∉ vs.drop j → o = .inl ((), ()))
  | 0, j, n + 1, hk, hn => by
    have : vs.drop j = [] := List.drop_eq_nil_of_le (by omega)
    exact ⟨.inl ((), ()), by simp [loopN, st83_0, show ¬ ((j : Int) < vs.length) by omega], by simp [this], fun _ => rfl⟩
  | k + 1, j, n + 1, hk, hn => by
    have hj : j < vs.length := by omega
    have hm : maxLen = 9223372036854775807 := rfl
    have e1 : IntKind.i64.wrap ((j : Int) + 1) = ((j + 1 : Nat) : Int) := wrap_in (by omega)
    have e2 : (j : Int).toNat = j := by simp
    have h1 : ((j : Int) < vs.length) := by omega
    obtain ⟨o, i1, i2, i3⟩ := loop44 vs x hl k (j + 1) n (by omega) (by omega)
    by_cases hx : x = vs[j]
    · exact ⟨.inr (j : Int), by simp [loopN, st83_0, e2, h1, hj, hx], fun _ => ⟨j, rfl⟩, fun h => (h (by rw [List.drop_eq_getElem_cons hj, ← hx]; exact List.mem_cons_self)).elim⟩
    · refine ⟨o, ?_, fun h => i2 ?_, fun h => i3 ?_⟩
      · have hx' : (x == vs[j]) = false := by simpa using hx
        simp only [loopN, st83_0]
        rw [e1, e2, getD_at 0 hj, hx', i1]
        simp [h1]
      · rw [List.drop_eq_getElem_cons hj] at h
        exact (List.mem_cons.1 h).resolve_left hx
      · rw [List.drop_eq_getElem_cons hj] at h
        exact fun h' => h (List.mem_cons_of_mem _ h')
theorem g83_eq (vs : List Int) (x : Int) (hl : vs.length ≤ maxLen) : ∃ i, g83 vs x = some i ∧ (x ∈ vs → 0 ≤ i) ∧ (x ∉ vs → i = -1) := by
  unfold g83 h83_0
  obtain ⟨o, h1, h2, h3⟩ := loop44 vs x hl vs.length 0 fuel (by omega) (fuel_big hl)
  simp only [List.drop_zero] at h2 h3
  have h1' : loopN st83_0 fuel ((vs, x, (vs.length : Int), 0), ()) = some o := h1
  rw [h1']
  by_cases h : x ∈ vs
  · obtain ⟨i, rfl⟩ := h2 h
    exact ⟨i, rfl, fun _ => by omega, fun hh => (hh h).elim⟩
  · rw [h3 h]
    exact ⟨-1, rfl, fun hh => (h hh).elim, fun _ => rfl⟩
theorem g78_eq (vs : List Int) (x : Int) (hl : vs.length ≤ maxLen) : g78 vs x = some (decide (x ∈ vs)) := by
  unfold g78
  obtain ⟨i, h1, h2, h3⟩ := g83_eq vs x hl
  rw [h1]
  by_cases h : x ∈ vs
  · have := h2 h; simp [h, this]
  · have := h3 h; simp [h, this]
theorem g60_eq {nd ns tm rl vd ld : Int} {vs : List Int} (hns : ns ≤ 9223372036854775807) (hlen : vs.length ≤ maxLen) (hrl : rl = 0 ∨ rl = 1 ∨ rl = 2) : g60 nd ns tm rl vd ld vs = some (cons nd ns tm rl vd ld vs) := by
  unfold g60 cons
  rw [g78_eq vs nd hlen, g72_eq _ _ hns]
  rcases hrl with rfl | rfl | rfl
  · cases h1 : (tm == 0) <;> cases h3 : (vd != -1) <;> cases h4 : (ld != -1) <;> cases h6 : ((vs.length : Int) == 0) <;> simp_all
  · cases h1 : (tm == 0) <;> cases h6 : (vd == nd) <;> cases h7 : (ld == -1) <;> cases h8 : decide (nd ∈ vs) <;> simp_all
  · cases h1 : (tm == 0) <;> cases h6 : (vd == nd) <;> cases h7 : (ld == nd) <;> simp_all
theorem loop12 {nd ns tm rl vd ld : Int} (vs : List Int) (hns : 1 ≤ ns ∧ ns ≤ 7) (hl : vs.length ≤ maxLen) : ∀ (k j n : Nat), k + j = vs.length → k < n →
    loopN st24_0 n ((vs, (vs.length : Int), (j : Int)), nd, ns, tm, rl, vd, ld, vs) = some (if vchk ns (pv vs j) (vs.drop j) = 0 then .inl ((), nd, ns, tm, rl, vd, ld, vs) else .inr (vchk ns (pv vs j) (vs.drop j)))
  | 0, j, n + 1, hk, hn => by
    have : vs.drop j = [] := List.drop_eq_nil_of_le (by omega)
    simp [loopN, st24_0, this, vchk, show ¬ ((j : Int) < vs.length) by omega]
  | k + 1, j, n + 1, hk, hn => by
    have hj : j < vs.length := by omega
    rw [List.drop_eq_getElem_cons hj]
    simp only [loopN, st24_0]
    have hm : maxLen = 9223372036854775807 := rfl
    have e1 : IntKind.i64.wrap ((j : Int) + 1) = ((j + 1 : Nat) : Int) := wrap_in (by omega)
    have e2 : (j : Int).toNat = j := by simp
    have e3 : IntKind.i64.wrap (ns - 1) = ns - 1 := wrap_in (by omega)
    rw [e1, e2, e3, getD_at 0 hj, g59_eq]
    have h1 : ((j : Int) < vs.length) := by omega
    simp only [h1, decide_true, Bool.and_true, show (0 : Int) ≤ j by omega, cond_true, Option.bind_some]
    rw [loop12 vs hns hl k (j + 1) n (by omega) (by omega), vchk]
    by_cases hb1 : vs[j] < 0 ∨ vs[j] ≥ ns
    · rw [if_pos hb1]
      have : (decide (0 ≤ vs[j]) && decide (vs[j] ≤ ns - 1)) = false := by simp; omega
      rw [this]; simp
    · rw [if_neg hb1]
      have : (decide (0 ≤ vs[j]) && decide (vs[j] ≤ ns - 1)) = true := by simp; omega
      rw [this]
      simp only [Bool.not_true, cond_false]
      cases j with
      | zero => simp [pv, leP, hj]
      | succ i =>
        have hi : i < vs.length := by omega
        have e4 : IntKind.i64.wrap (((i + 1 : Nat) : Int) - 1) = (i : Int) := by rw [show ((i + 1 : Nat) : Int) - 1 = i by omega]; exact wrap_in (by omega)
        rw [e4]
        simp only [Int.toNat_natCast, getD_at 0 hi, show (((i + 1 : Nat) : Int) > 0) by omega, decide_true, cond_true, show (0 : Int) ≤ i by omega, show ((i : Int) < vs.length) by omega, Bool.and_true]
        have hpv : pv vs (i + 1) = some vs[i] := by simp [pv, hi]
        have hpv2 : pv vs (i + 1 + 1) = some vs[i + 1] := by simp [pv, hj]
        rw [hpv, leP, hpv2]
        by_cases hb3 : vs[i + 1] ≤ vs[i] <;> simp [hb3]
theorem g24_eq {nd ns tm rl vd ld : Int} {vs : List Int} (hb : -9223372036854775808 ≤ ns ∧ ns ≤ 9223372036854775807) (hlen : vs.length ≤ maxLen) : g24 nd ns tm rl vd ld vs = some (chk nd ns tm rl vd ld vs) := by
  unfold g24
  simp only [g59_eq, Option.bind_some]
  by_cases h1 : 1 ≤ ns ∧ ns ≤ 7
  · have e3 : IntKind.i64.wrap (ns - 1) = ns - 1 := wrap_in (by omega)
    rw [e3]
    have t1 : (decide (1 ≤ ns) && decide (ns ≤ 7)) = true := by simp; omega
    rw [t1]
    simp only [Bool.not_true, cond_false]
    by_cases h2 : 0 ≤ nd ∧ nd ≤ ns - 1
    · have t2 : (decide (0 ≤ nd) && decide (nd ≤ ns - 1)) = true := by simp; omega
      rw [t2]
      have hN : okN nd ns := by unfold okN; omega
      simp only [Bool.not_true, cond_false]
      by_cases h3 : 0 ≤ tm ∧ tm ≤ 1099511627776
      · have t3 : (decide (0 ≤ tm) && decide (tm ≤ 1099511627776)) = true := by simp; omega
        rw [t3]
        simp only [Bool.not_true, cond_false]
        by_cases h4 : 0 ≤ rl ∧ rl ≤ 2
        · have t4 : (decide (0 ≤ rl) && decide (rl ≤ 2)) = true := by simp; omega
          rw [t4]
          simp only [Bool.not_true, cond_false]
          by_cases h5 : -1 ≤ vd ∧ vd ≤ ns - 1
          · have t5 : (decide (-1 ≤ vd) && decide (vd ≤ ns - 1)) = true := by simp; omega
            rw [t5]
            simp only [Bool.not_true, cond_false]
            by_cases h6 : -1 ≤ ld ∧ ld ≤ ns - 1
            · have t6 : (decide (-1 ≤ ld) && decide (ld ≤ ns - 1)) = true := by simp; omega
              rw [t6]
              simp only [Bool.not_true, cond_false]
              have hl := loop12 (nd := nd) (tm := tm) (rl := rl) (vd := vd) (ld := ld) vs h1 hlen vs.length 0 fuel (by omega) (fuel_big hlen)
              rw [show ((0 : Nat) : Int) = 0 from rfl] at hl
              unfold h24_0
              rw [hl]
              simp only [List.drop_zero, pv]
              unfold chk
              by_cases h7 : vchk ns none vs = 0
              · rw [if_pos h7, if_neg (by simpa using hN), if_neg (by omega), if_neg (by omega), if_neg (by omega), if_neg (by simpa using h7)]
                simp only [g60_eq (nd := nd) (ns := ns) (tm := tm) (rl := rl) (vd := vd) (ld := ld) (vs := vs) hb.2 hlen (by omega), Option.bind_some]
                cases cons nd ns tm rl vd ld vs <;> simp
              · rw [if_neg h7, if_neg (by simpa using hN), if_neg (by omega), if_neg (by omega), if_neg (by omega), if_pos h7]
                rfl
            · have t6 : (decide (-1 ≤ ld) && decide (ld ≤ ns - 1)) = false := by simp; omega
              rw [t6]
              unfold chk
              rw [if_neg (by simpa using hN), if_neg (by omega), if_neg (by omega), if_pos (by omega)]
              rfl
          · have t5 : (decide (-1 ≤ vd) && decide (vd ≤ ns - 1)) = false := by simp; omega
            rw [t5]
            unfold chk
            rw [if_neg (by simpa using hN), if_neg (by omega), if_neg (by omega), if_pos (by omega)]
            rfl
        · have t4 : (decide (0 ≤ rl) && decide (rl ≤ 2)) = false := by simp; omega
          rw [t4]
          unfold chk
          rw [if_neg (by simpa using hN), if_neg (by omega), if_pos (by omega)]
          rfl
      · have t3 : (decide (0 ≤ tm) && decide (tm ≤ 1099511627776)) = false := by simp; omega
        rw [t3]
        unfold chk
        rw [if_neg (by simpa using hN), if_pos (by omega)]
        rfl
    · have t2 : (decide (0 ≤ nd) && decide (nd ≤ ns - 1)) = false := by simp; omega
      rw [t2]
      unfold chk
      rw [if_pos (by unfold okN; omega)]
      rfl
  · have t1 : (decide (1 ≤ ns) && decide (ns ≤ 7)) = false := by simp; omega
    rw [t1]
    unfold chk
    rw [if_pos (by unfold okN; omega)]
    rfl
end Go.Proofs.YtfadalgikdffeaaGreat.EVT
/- Chapter 40: the calls keep a ballot as it has to be. -/
set_option linter.unusedVariables false
set_option linter.unusedSimpArgs false
namespace Go.Proofs.YtfadalgikdffeaaGreat.EVT
open Go Go.EV
abbrev Bal := Int × Int × Int × Int × Int × Int × List Int
abbrev Let := Int × Int × Int × Int × Int × Int × Int × Bool × List (Int × List UInt8)
def Max : Int := 1099511627776
/-- A ballot that has to be so. -/
def okB (b : Bal) : Prop := chk b.1 b.2.1 b.2.2.1 b.2.2.2.1 b.2.2.2.2.1 b.2.2.2.2.2.1 b.2.2.2.2.2.2 = 0
theorem okB_len {b : Bal} (h : okB b) : b.2.2.2.2.2.2.length ≤ 7 := by
  obtain ⟨h1, _, _, _, h5, _⟩ := chk_iff.1 h
  exact votes_len (by unfold okN at h1; omega) h5
theorem g65_eq {nd ns tm rl vd ld : Int} {vs : List Int} (hl : vs.length ≤ 7) : g65 nd ns tm rl vd ld vs = some (nd, ns, tm, rl, vd, ld, vs) := by
  have : decide (List.length vs ≤ 2147483647) = true := by simp; omega
  show Option.bind (cond (decide (List.length vs ≤ 2147483647)) (some vs) none) _ = _
  rw [this]
  rfl
theorem g66_eq (nd ns tm rl vd ld : Int) (vs : List Int) (t : Int) : g66 nd ns tm rl vd ld vs t = some (nd, ns, t, 0, -1, -1, []) := rfl
theorem g67_eq (nd ns tm rl vd ld : Int) (vs : List Int) : g67 nd ns tm rl vd ld vs = some (nd, ns, tm, 2, vd, nd, []) := rfl
def obs (b : Bal) (t : Int) : Bal := if t ≤ b.2.2.1 ∨ t > Max then b else (b.1, b.2.1, t, 0, -1, -1, [])
theorem g74_eq {nd ns tm rl vd ld : Int} {vs : List Int} (t : Int) (hl : vs.length ≤ 7) : g74 nd ns tm rl vd ld vs t = some (obs (nd, ns, tm, rl, vd, ld, vs) t) := by
  unfold g74 obs Max
  simp only [g65_eq hl, g66_eq, Option.bind_some]
  by_cases h1 : t ≤ tm
  · simp [h1]
  · by_cases h2 : t > 1099511627776 <;> simp [h1, h2]
def con (nd ns fr tu te : Int) : Bool := tu == nd && fr != nd && decide (fr ≥ 0) && decide (fr < ns) && decide (te ≥ 1) && decide (te ≤ Max)
theorem g73_eq (nd ns tm rl vd ld : Int) (vs : List Int) (kd fr tu te ix pr cm : Int) (ye : Bool) (es : List (Int × List UInt8)) : g73 nd ns tm rl vd ld vs kd fr tu te ix pr cm ye es = some (con nd ns fr tu te) := by
  unfold g73 con Max
  cases tu == nd <;> cases fr != nd <;> cases decide (fr ≥ 0) <;> cases decide (fr < ns) <;> cases decide (te ≥ 1) <;> rfl
theorem con_iff {nd ns fr tu te : Int} : con nd ns fr tu te = true ↔ tu = nd ∧ fr ≠ nd ∧ 0 ≤ fr ∧ fr < ns ∧ 1 ≤ te ∧ te ≤ Max := by
  unfold con; simp [and_assoc]
/-- What is kept. -/
def Keeps1 (b x : Bal) : Prop := okB x ∧ x.1 = b.1 ∧ x.2.1 = b.2.1 ∧ b.2.2.1 ≤ x.2.2.1 ∧ (x.2.2.1 = b.2.2.1 → x.2.2.2.2.1 = b.2.2.2.2.1 ∨ b.2.2.2.2.1 = -1)
theorem keeps_refl {b : Bal} (h : okB b) : Keeps1 b b := ⟨h, rfl, rfl, Int.le_refl _, fun _ => .inl rfl⟩
theorem obs_keeps {b : Bal} (h : okB b) (t : Int) : Keeps1 b (obs b t) := by
  unfold obs
  split
  · exact keeps_refl h
  · rename_i hh
    obtain ⟨h1, h2, _⟩ := chk_iff.1 h
    unfold Max at hh
    have h3 := h1
    unfold okN at h3
    exact ⟨(show chk b.1 b.2.1 t 0 (-1) (-1) [] = 0 from chk_follow h1 (by omega) (-1) (by omega)), rfl, rfl, by show _ ≤ t; omega, fun e => by exfalso; have : t = b.2.2.1 := e; omega⟩
/-! ### Campaign -/
def camp (b : Bal) : Bal := if b.2.2.1 ≥ Max then b else if b.2.1 = 1 then (b.1, b.2.1, b.2.2.1 + 1, 2, b.1, b.1, []) else (b.1, b.2.1, b.2.2.1 + 1, 1, b.1, -1, [b.1])
theorem loop13 {ix pr ns : Int} (hns : 1 ≤ ns ∧ ns ≤ 7) {r8 : Int × Int × Int × Int × Int × Int × Unit} {r6 : Bal} {nd a1 a2 a3 a4 a5 : Int} {vs r31 : List Int} : ∀ (k j n : Nat) (l : List Let), (k : Int) + j = ns → k < n → l.length ≤ j →
    ∃ l', loopN st33_0 n ((ix, pr, ns, (j : Int)), l, r8, r6, (nd, a1, a2, a3, a4, a5, vs), r31) = some (.inl ((), l', r8, r6, r31))
  | 0, j, n + 1, l, hk, hn, hl => ⟨l, by simp [loopN, st33_0, show ¬ ((j : Int) < ns) by omega]⟩
  | k + 1, j, n + 1, l, hk, hn, hl => by
    have e1 : IntKind.i64.wrap ((j : Int) + 1) = ((j + 1 : Nat) : Int) := wrap_in (by omega)
    obtain ⟨b1, b2, b3, b4, b5, b6, ⟨⟩⟩ := r8
    obtain ⟨c1, c2, c3, c4, c5, c6, c7⟩ := r6
    have h1 : (j : Int) < ns := by omega
    simp only [loopN, st33_0, e1]
    by_cases hj : (j : Int) = nd
    · obtain ⟨l', h⟩ := loop13 hns (r8 := (b1, b2, b3, b4, b5, b6, ())) (r6 := (c1, c2, c3, c4, c5, c6, c7)) (nd := nd) (a1 := a1) (a2 := a2) (a3 := a3) (a4 := a4) (a5 := a5) (vs := vs) (r31 := r31) (ix := ix) (pr := pr) k (j + 1) n l (by omega) (by omega) (by omega)
      have hj' : ((j : Int) != nd) = false := by simpa using hj
      exact ⟨l', by simp only [h1, decide_true, cond_true, hj', cond_false]; exact h⟩
    · obtain ⟨l', h⟩ := loop13 hns (r8 := (b1, b2, b3, b4, b5, b6, ())) (r6 := (c1, c2, c3, c4, c5, c6, c7)) (nd := nd) (a1 := a1) (a2 := a2) (a3 := a3) (a4 := a4) (a5 := a5) (vs := vs) (r31 := r31) (ix := ix) (pr := pr) k (j + 1) n (l ++ [(1, nd, (j : Int), b3, ix, pr, 0, false, [])]) (by omega) (by omega) (by simp; omega)
      have h2 : l.length + 1 ≤ 2147483647 := by omega
      have hj' : ((j : Int) != nd) = true := by simpa using hj
      exact ⟨l', by simp only [h1, decide_true, cond_true, hj', h2]; exact h⟩
theorem g33_eq {nd ns tm rl vd ld : Int} {vs : List Int} (ix pr : Int) (h : okB (nd, ns, tm, rl, vd, ld, vs)) : ∃ l, g33 nd ns tm rl vd ld vs ix pr = some (camp (nd, ns, tm, rl, vd, ld, vs), l) := by
  have hl := okB_len h
  obtain ⟨h1, h2, _⟩ := chk_iff.1 h
  simp only [okN] at h1 h2
  unfold g33 camp Max
  simp only [g65_eq (show vs.length ≤ 7 from hl), g66_eq, g67_eq, Option.bind_some]
  have e1 : IntKind.i64.wrap (tm + 1) = tm + 1 := wrap_in (by omega)
  by_cases c1 : tm ≥ 1099511627776
  · exact ⟨[], by simp [c1]⟩
  · by_cases c2 : ns = 1
    · exact ⟨[], by simp [c1, c2, e1]⟩
    · obtain ⟨l', hh⟩ := loop13 (ix := ix) (pr := pr) (ns := ns) (by omega) (r8 := (nd, ns, tm + 1, 1, nd, -1, ())) (r6 := (0, 0, 0, 0, 0, 0, [])) (nd := nd) (a1 := ns) (a2 := tm) (a3 := rl) (a4 := vd) (a5 := ld) (vs := vs) (r31 := [nd]) ns.toNat 0 fuel [] (by omega) (by rw [fuel_eq]; omega) (by simp)
      have hh' : h33_0 ((ix, pr, ns, 0), [], (nd, ns, tm + 1, 1, nd, -1, ()), (0, 0, 0, 0, 0, 0, []), (nd, ns, tm, rl, vd, ld, vs), [nd]) = _ := hh
      refine ⟨l', ?_⟩
      have c2' : (ns == 1) = false := by simpa using c2
      rw [e1, hh']
      simp [c1, c2, c2']
theorem camp_keeps {b : Bal} (h : okB b) : Keeps1 b (camp b) := by
  unfold camp
  obtain ⟨h1, h2, _⟩ := chk_iff.1 h
  have h3 := h1
  unfold okN at h3
  split
  · exact keeps_refl h
  · rename_i hh
    unfold Max at hh
    split
    · exact ⟨(show chk b.1 b.2.1 (b.2.2.1 + 1) 2 b.1 b.1 [] = 0 from chk_leads h1 (by omega)), rfl, rfl, by show b.2.2.1 ≤ b.2.2.1 + 1; omega, fun e => by exfalso; have : b.2.2.1 + 1 = b.2.2.1 := e; omega⟩
    · rename_i hn
      exact ⟨(show chk b.1 b.2.1 (b.2.2.1 + 1) 1 b.1 (-1) [b.1] = 0 from chk_stands h1 hn (by omega)), rfl, rfl, by show b.2.2.1 ≤ b.2.2.1 + 1; omega, fun e => by exfalso; have : b.2.2.1 + 1 = b.2.2.1 := e; omega⟩
/-! ### Answer -/
def vote1 (b : Bal) (fr : Int) : Bal := (b.1, b.2.1, b.2.2.1, b.2.2.2.1, fr, b.2.2.2.2.2)
def ans (b : Bal) (kd fr tu te lix lpr ix pr : Int) : Bal × Let :=
  if kd ≠ 1 ∨ con b.1 b.2.1 fr tu te = false then (b, 0, 0, 0, 0, 0, 0, 0, false, [])
  else
    let o := obs b te
    if yesA o.2.2.1 o.2.2.2.2.1 fr te lpr lix pr ix then (vote1 o fr, 2, b.1, fr, o.2.2.1, 0, 0, 0, true, [])
    else (o, 2, b.1, fr, o.2.2.1, 0, 0, 0, false, [])
theorem g44_eq {nd ns tm rl vd ld : Int} {vs : List Int} (kd fr tu te lix lpr cm : Int) (ye : Bool) (es : List (Int × List UInt8)) (ix pr : Int) (hl : vs.length ≤ 7) : g44 nd ns tm rl vd ld vs kd fr tu te lix lpr cm ye es ix pr = some (ans (nd, ns, tm, rl, vd, ld, vs) kd fr tu te lix lpr ix pr) := by
  unfold g44 ans
  simp only [g65_eq hl, g73_eq, g74_eq te hl, Option.bind_some]
  by_cases c1 : kd = 1
  · subst c1
    cases c2 : con nd ns fr tu te
    · simp
    · generalize obs (nd, ns, tm, rl, vd, ld, vs) te = o
      obtain ⟨o1, o2, o3, o4, o5, o6, o7⟩ := o
      simp only [yesA, newer, vote1]
      by_cases d1 : pr < lpr <;> by_cases d5 : lpr = pr <;> by_cases d2 : te = o3 <;> by_cases d3 : o5 = -1 <;> by_cases d4 : o5 = fr <;> by_cases d6 : ix ≤ lix <;> simp [d1, d2, d3, d4, d5, d6, cond_eq_ite]
  · have : (kd != 1) = true := by simpa using c1
    simp [c1, this]
theorem obs_tm {b : Bal} {t : Int} (h : okB b) (ht : 1 ≤ t ∧ t ≤ Max) (e : t = (obs b t).2.2.1) : 1 ≤ (obs b t).2.2.1 := by omega
theorem ans_keeps {b : Bal} (h : okB b) (kd fr tu te lix lpr ix pr : Int) : Keeps1 b (ans b kd fr tu te lix lpr ix pr).1 ∧ ((ans b kd fr tu te lix lpr ix pr).2.2.2.2.2.2.2.2.1 = true → (ans b kd fr tu te lix lpr ix pr).2.2.2.2.1 = (ans b kd fr tu te lix lpr ix pr).1.2.2.1 ∧ (ans b kd fr tu te lix lpr ix pr).1.2.2.2.2.1 = (ans b kd fr tu te lix lpr ix pr).2.2.2.1) := by
  unfold ans
  split
  · exact ⟨keeps_refl h, fun e => by cases e⟩
  · rename_i hh
    have hc : con b.1 b.2.1 fr tu te = true := by
      cases hcc : con b.1 b.2.1 fr tu te
      · exact (hh (.inr hcc)).elim
      · rfl
    have hk := obs_keeps h te
    obtain ⟨_, c2, c3, c4, c5, c6⟩ := con_iff.1 hc
    dsimp only
    split
    · rename_i hy
      simp only [yesA, Bool.and_eq_true, Bool.or_eq_true, beq_iff_eq] at hy
      obtain ⟨⟨y1, y2⟩, _⟩ := hy
      obtain ⟨k1, k2, k3, k4, k5⟩ := hk
      refine ⟨⟨?_, k2, k3, k4, fun e => ?_⟩, fun _ => ⟨rfl, rfl⟩⟩
      · show chk (obs b te).1 (obs b te).2.1 (obs b te).2.2.1 (obs b te).2.2.2.1 fr (obs b te).2.2.2.2.2.1 (obs b te).2.2.2.2.2.2 = 0
        rcases y2 with y2 | y2
        · have k1' := k1
          unfold okB at k1'
          rw [y2] at k1'
          exact chk_votes (fr := fr) k1' ⟨c3, show fr < (obs b te).2.1 by rw [k3]; exact c4⟩ (show 1 ≤ (obs b te).2.2.1 by omega)
        · have k1' := k1
          unfold okB at k1'
          rw [y2] at k1'
          exact k1'
      · have e' : (obs b te).2.2.1 = b.2.2.1 := e
        show fr = b.2.2.2.2.1 ∨ _
        rcases y2 with y2 | y2
        · rcases k5 e' with k5 | k5
          · right; rw [← k5, y2]
          · exact .inr k5
        · rcases k5 e' with k5 | k5
          · left; rw [← k5, y2]
          · exact .inr k5
    · exact ⟨hk, fun e => by cases e⟩
end Go.Proofs.YtfadalgikdffeaaGreat.EVT
/- Chapter 40: counted votes; the law VoteKeeps. -/
set_option linter.unusedVariables false
set_option linter.unusedSimpArgs false
set_option maxRecDepth 10000
namespace Go.Proofs.YtfadalgikdffeaaGreat.EVT
open Go Go.EV
/-! ### Count -/
def cnt (b : Bal) (kd fr tu te : Int) (ye : Bool) : Bal :=
  if kd ≠ 2 ∨ con b.1 b.2.1 fr tu te = false then b
  else
    let o := obs b te
    if te ≠ o.2.2.1 ∨ o.2.2.2.1 ≠ 1 ∨ ye = false then o
    else if quo (cntVs fr o.2.2.2.2.2.2).length o.2.1 then (o.1, o.2.1, o.2.2.1, 2, o.2.2.2.2.1, o.1, [])
    else (o.1, o.2.1, o.2.2.1, o.2.2.2.1, o.2.2.2.2.1, o.2.2.2.2.2.1, cntVs fr o.2.2.2.2.2.2)
/-- Seven marks. -/
def marks (f : Nat → Bool) : List Bool := (List.range 7).map f
theorem marks_len (f : Nat → Bool) : (marks f).length = 7 := by simp [marks]
theorem marks_set (f : Nat → Bool) {n : Nat} (h : n < 7) : (marks f).set n true = marks fun m => f m || m == n := by
  apply List.ext_getElem?
  intro i
  unfold marks
  rw [List.getElem?_set]
  by_cases hi : i < 7
  · by_cases e : n = i
    · subst e; simp [h]
    · have e' : (i == n) = false := by simp; exact fun h => e h.symm
      simp [e, hi, e']
  · by_cases e : n = i
    · subst e; omega
    · simp [e, hi]
theorem loop16_0 {b4 : Bal} {b5 : Bal} (vs : List Int) (hv : ∀ v ∈ vs, 0 ≤ v ∧ v < 7) (hl : vs.length ≤ 7) : ∀ (k j n : Nat) (f : Nat → Bool), k + j = vs.length → k < n →
    loopN st46_0 n ((vs, (vs.length : Int), (j : Int)), marks f, b5, b4) = some (.inl ((), marks (fun m => f m || (vs.drop j).any (fun v => m == v.toNat)), b5, b4))
  | 0, j, n + 1, f, hk, hn => by
    have : vs.drop j = [] := List.drop_eq_nil_of_le (by omega)
    simp [loopN, st46_0, this, show ¬ ((j : Int) < vs.length) by omega]
  | k + 1, j, n + 1, f, hk, hn => by
    have hj : j < vs.length := by omega
    obtain ⟨c1, c2, c3, c4, c5, c6, c7⟩ := b4
    obtain ⟨d1, d2, d3, d4, d5, d6, d7⟩ := b5
    simp only [loopN, st46_0]
    have e1 : IntKind.i64.wrap ((j : Int) + 1) = ((j + 1 : Nat) : Int) := wrap_in (by omega)
    have e2 : (j : Int).toNat = j := by simp
    have h1 : ((j : Int) < vs.length) := by omega
    have hvj := hv vs[j] (List.getElem_mem hj)
    have hm : vs[j].toNat < 7 := by omega
    rw [e1, e2, getD_at 0 hj, marks_len, marks_set f hm]
    simp only [h1, decide_true, Bool.and_true, show (0 : Int) ≤ j by omega, cond_true, hvj, hm, show vs[j] < ((7 : Nat) : Int) by omega, Bool.and_self]
    rw [loop16_0 vs hv hl k (j + 1) n _ (by omega) (by omega), List.drop_eq_getElem_cons hj]
    simp only [List.any_cons, Bool.or_assoc]
theorem selI_succ (f : Nat → Bool) (j : Nat) : selI f (j + 1) = selI f j ++ (if f j then [(j : Int)] else []) := by
  unfold selI
  rw [List.range_succ, List.filter_append, List.map_append]
  cases h : f j <;> simp [h]
theorem selI_le (f : Nat → Bool) : ∀ j, (selI f j).length ≤ j
  | 0 => by simp [selI]
  | j + 1 => by
    rw [selI_succ]
    have := selI_le f j
    cases f j <;> simp <;> omega
theorem loop16_1 {b4 : Bal} {r5 : Int × Int × Int × Int × Int × Int × Unit} (f : Nat → Bool) : ∀ (k j n : Nat), k + j = 7 → k < n → loopN st46_1 n ((marks f, (j : Int)), selI f j, r5, b4) = some (.inl ((), r5, b4, selI f 7))
  | 0, j, n + 1, hk, hn => by
    obtain rfl : j = 7 := by omega
    obtain ⟨c1, c2, c3, c4, c5, c6, c7⟩ := b4
    obtain ⟨d1, d2, d3, d4, d5, d6, ⟨⟩⟩ := r5
    simp [loopN, st46_1]
  | k + 1, j, n + 1, hk, hn => by
    obtain ⟨c1, c2, c3, c4, c5, c6, c7⟩ := b4
    obtain ⟨d1, d2, d3, d4, d5, d6, ⟨⟩⟩ := r5
    have ih := loop16_1 (b4 := (c1, c2, c3, c4, c5, c6, c7)) (r5 := (d1, d2, d3, d4, d5, d6, ())) f k (j + 1) n (by omega) (by omega)
    have hj : j < 7 := by omega
    simp only [loopN, st46_1]
    have e1 : IntKind.i64.wrap ((j : Int) + 1) = ((j + 1 : Nat) : Int) := wrap_in (by omega)
    have e2 : (j : Int).toNat = j := by simp
    have e3 : (marks f).getD j false = f j := by simp [marks, List.getD_eq_getElem?_getD, hj]
    have e4 := selI_le f j
    have e5 : (selI f j).length + 1 ≤ 2147483647 := by omega
    rw [e1, e2, e3, marks_len]
    simp only [show ((j : Int) < 7) by omega, show (0 : Int) ≤ j by omega, show ((j : Int) < ((7 : Nat) : Int)) by omega, decide_true, Bool.and_self, cond_true, e5]
    rw [selI_succ] at ih
    cases hf : f j
    · rw [hf] at ih
      simpa using ih
    · rw [hf] at ih
      simpa using ih
theorem g46_eq {b : Bal} (kd fr tu te lix lpr cm : Int) (ye : Bool) (es : List (Int × List UInt8)) (h : okB b) : g46 b.1 b.2.1 b.2.2.1 b.2.2.2.1 b.2.2.2.2.1 b.2.2.2.2.2.1 b.2.2.2.2.2.2 kd fr tu te lix lpr cm ye es = some (cnt b kd fr tu te ye) := by
  have hl := okB_len h
  unfold g46 cnt
  rw [g65_eq hl, g73_eq, g74_eq te hl]
  simp only [Option.bind_some]
  by_cases c1 : kd = 2
  · subst c1
    cases c2 : con b.1 b.2.1 fr tu te
    · simp
    · obtain ⟨_, _, f1, f2, _, _⟩ := con_iff.1 c2
      have hk := obs_keeps h te
      have ho := hk.1
      have hns := hk.2.2.1
      obtain ⟨n1, _, _, _, n5, _⟩ := chk_iff.1 ho
      have hol := okB_len ho
      have hb7 : b.2.1 ≤ 7 := by rw [← hns]; unfold okN at n1; omega
      have hvs := (vchk_of n5).1
      show (bif (2 : Int) != 2 then _ else bif !true then _ else _) = _
      simp only [bne_self_eq_false, cond_false, Bool.not_true, ne_eq, not_true_eq_false, false_or, Bool.true_eq_false, if_false]
      generalize hoo : obs b te = o at *
      by_cases d1 : te = o.2.2.1
      · by_cases d2 : o.2.2.2.1 = 1
        · cases ye
          · have : (te != o.2.2.1) = false := by simpa using d1
            simp [d2]
          · have e1 : (te != o.2.2.1) = false := by simpa using d1
            have e2 : (o.2.2.2.1 != 1) = false := by simpa using d2
            have e3 : fr.toNat < 7 := by omega
            have e4 : [false, false, false, false, false, false, false].set fr.toNat true = marks fun m => m == fr.toNat := by
              have := marks_set (fun _ => false) e3
              simpa [marks, List.range, List.range.loop] using this
            have v7 : ∀ v ∈ o.2.2.2.2.2.2, 0 ≤ v ∧ v < 7 := fun v hv => by
              have := hvs v hv
              unfold okN at n1
              omega
            have l0 := loop16_0 (b4 := (0, 0, 0, 0, 0, 0, [])) (b5 := o) o.2.2.2.2.2.2 v7 hol o.2.2.2.2.2.2.length 0 fuel (fun m => m == fr.toNat) (by omega) (by rw [fuel_eq]; omega)
            have l0' : h46_0 ((o.2.2.2.2.2.2, (↑(List.length o.2.2.2.2.2.2) : Int), 0), marks (fun m => m == fr.toNat), o, 0, 0, 0, 0, 0, 0, []) = _ := l0
            have em : (fun m => (m == fr.toNat) || (o.2.2.2.2.2.2.drop 0).any fun v => m == v.toNat) = markF fr o.2.2.2.2.2.2 := by
              funext m
              simp only [List.drop_zero, markF]
              rw [Bool.or_comm]
            rw [em] at l0'
            have l1 := loop16_1 (b4 := (0, 0, 0, 0, 0, 0, [])) (r5 := (o.1, o.2.1, o.2.2.1, o.2.2.2.1, o.2.2.2.2.1, o.2.2.2.2.2.1, ())) (markF fr o.2.2.2.2.2.2) 7 0 fuel (by omega) (by rw [fuel_eq]; omega)
            have l1' : h46_1 ((marks (markF fr o.2.2.2.2.2.2), 0), [], (o.1, o.2.1, o.2.2.1, o.2.2.2.1, o.2.2.2.2.1, o.2.2.2.2.2.1, ()), 0, 0, 0, 0, 0, 0, []) = _ := l1
            rw [e1, e2, e4]
            simp only [cond_false, Bool.not_true, show (0 ≤ fr) by omega, show (fr < ((7 : Nat) : Int)) by omega, show (fr < 7) by omega, decide_true, Bool.and_self, cond_true, e3]
            rw [l0']
            simp only [Option.bind_some, marks_len]
            show (bif (true == true && true && (1 * 7 == 7) && true) then _ else _) = _
            simp only [beq_self_eq_true, Nat.one_mul, Bool.and_self, cond_true]
            rw [l1']
            simp only [Option.bind_some]
            rw [g71_eq _ _ (by unfold okN at n1; omega)]
            simp only [Option.bind_some, g67_eq]
            rw [if_neg (by simp [← d1, d2])]
            cases hq : quo (selI (markF fr o.2.2.2.2.2.2) 7).length o.2.1
            · rw [if_neg (by unfold cntVs; simp [hq])]; rfl
            · rw [if_pos (by unfold cntVs; exact hq)]; rfl
        · have e1 : (te != o.2.2.1) = false := by simpa using d1
          have e2 : (o.2.2.2.1 != 1) = true := by simpa using d2
          simp [e1, e2, d2]
      · have : (te != o.2.2.1) = true := by simpa using d1
        simp [this, d1]
  · have : (kd != 2) = true := by simpa using c1
    simp [c1, this]
end Go.Proofs.YtfadalgikdffeaaGreat.EVT
/- The letters of a campaign, whole; quorums. -/
set_option linter.unusedVariables false
set_option linter.unusedSimpArgs false
namespace Go.Proofs.YtfadalgikdffeaaGreat.EVT
open Go Go.EV

def askL (nd tm ix pr : Int) : Nat → Nat → List Let
  | 0, _ => []
  | k + 1, j => if (j : Int) = nd then askL nd tm ix pr k (j + 1) else ((1, nd, (j : Int), tm, ix, pr, 0, false, []) : Let) :: askL nd tm ix pr k (j + 1)
theorem askL_len (nd tm ix pr : Int) : ∀ k j, (askL nd tm ix pr k j).length ≤ k
  | 0, _ => by simp [askL]
  | k + 1, j => by
    simp only [askL]
    have := askL_len nd tm ix pr k (j + 1)
    split
    · omega
    · simp; omega
theorem askL_mem (nd tm ix pr : Int) : ∀ k j, ∀ x ∈ askL nd tm ix pr k j, x.1 = 1 ∧ (j : Int) ≤ x.2.2.1 ∧ x.2.2.1 < (j : Int) + (k : Int)
  | 0, _, x, h => by simp [askL] at h
  | k + 1, j, x, h => by
    simp only [askL] at h
    split at h
    · have := askL_mem nd tm ix pr k (j + 1) x h
      omega
    · rcases List.mem_cons.1 h with rfl | h
      · simp; omega
      · have := askL_mem nd tm ix pr k (j + 1) x h
        omega
theorem loop13L {ix pr ns : Int} (hns : 1 ≤ ns ∧ ns ≤ 7) {r8 : Int × Int × Int × Int × Int × Int × Unit} {r6 : Bal} {nd a1 a2 a3 a4 a5 : Int} {vs r31 : List Int} : ∀ (k j n : Nat) (l : List Let), (k : Int) + j = ns → k < n → l.length ≤ j →
    loopN st33_0 n ((ix, pr, ns, (j : Int)), l, r8, r6, (nd, a1, a2, a3, a4, a5, vs), r31) = some (.inl ((), l ++ askL nd r8.2.2.1 ix pr k j, r8, r6, r31))
  | 0, j, n + 1, l, hk, hn, hl => by simp [loopN, st33_0, show ¬ ((j : Int) < ns) by omega, askL]
  | k + 1, j, n + 1, l, hk, hn, hl => by
    have e1 : IntKind.i64.wrap ((j : Int) + 1) = ((j + 1 : Nat) : Int) := wrap_in (by omega)
    obtain ⟨b1, b2, b3, b4, b5, b6, ⟨⟩⟩ := r8
    obtain ⟨c1, c2, c3, c4, c5, c6, c7⟩ := r6
    have h1 : (j : Int) < ns := by omega
    simp only [loopN, st33_0, e1]
    by_cases hj : (j : Int) = nd
    · have h := loop13L hns (r8 := (b1, b2, b3, b4, b5, b6, ())) (r6 := (c1, c2, c3, c4, c5, c6, c7)) (nd := nd) (a1 := a1) (a2 := a2) (a3 := a3) (a4 := a4) (a5 := a5) (vs := vs) (r31 := r31) (ix := ix) (pr := pr) k (j + 1) n l (by omega) (by omega) (by omega)
      have hj' : ((j : Int) != nd) = false := by simpa using hj
      simp only [h1, decide_true, cond_true, hj', cond_false]
      rw [h]
      simp [askL, hj]
    · have h := loop13L hns (r8 := (b1, b2, b3, b4, b5, b6, ())) (r6 := (c1, c2, c3, c4, c5, c6, c7)) (nd := nd) (a1 := a1) (a2 := a2) (a3 := a3) (a4 := a4) (a5 := a5) (vs := vs) (r31 := r31) (ix := ix) (pr := pr) k (j + 1) n (l ++ [(1, nd, (j : Int), b3, ix, pr, 0, false, [])]) (by omega) (by omega) (by simp; omega)
      have h2 : l.length + 1 ≤ 2147483647 := by omega
      have hj' : ((j : Int) != nd) = true := by simpa using hj
      simp only [h1, decide_true, cond_true, hj', h2]
      rw [h]
      simp [askL, hj]
def campL (b : Bal) (ix pr : Int) : List Let := if b.2.2.1 ≥ Max then [] else if b.2.1 = 1 then [] else askL b.1 (b.2.2.1 + 1) ix pr b.2.1.toNat 0
theorem g33_eqL {nd ns tm rl vd ld : Int} {vs : List Int} (ix pr : Int) (h : okB (nd, ns, tm, rl, vd, ld, vs)) : g33 nd ns tm rl vd ld vs ix pr = some (camp (nd, ns, tm, rl, vd, ld, vs), campL (nd, ns, tm, rl, vd, ld, vs) ix pr) := by
  have hl := okB_len h
  obtain ⟨h1, h2, _⟩ := chk_iff.1 h
  simp only [okN] at h1 h2
  unfold g33 camp campL Max
  simp only [g65_eq (show vs.length ≤ 7 from hl), g66_eq, g67_eq, Option.bind_some]
  have e1 : IntKind.i64.wrap (tm + 1) = tm + 1 := wrap_in (by omega)
  by_cases c1 : tm ≥ 1099511627776
  · simp [c1]
  · by_cases c2 : ns = 1
    · simp [c1, c2, e1]
    · have hh := loop13L (ix := ix) (pr := pr) (ns := ns) (by omega) (r8 := (nd, ns, tm + 1, 1, nd, -1, ())) (r6 := (0, 0, 0, 0, 0, 0, [])) (nd := nd) (a1 := ns) (a2 := tm) (a3 := rl) (a4 := vd) (a5 := ld) (vs := vs) (r31 := [nd]) ns.toNat 0 fuel [] (by omega) (by rw [fuel_eq]; omega) (by simp)
      have hh' : h33_0 ((ix, pr, ns, 0), [], (nd, ns, tm + 1, 1, nd, -1, ()), (0, 0, 0, 0, 0, 0, []), (nd, ns, tm, rl, vd, ld, vs), [nd]) = _ := hh
      have c2' : (ns == 1) = false := by simpa using c2
      rw [e1, hh']
      simp [c1, c2, c2']
/-! ### quorums -/
def cntf (f : Nat → Bool) : Nat := ((List.range 7).filter f).length
structure Quor (N : Nat) (Q : Nat → Bool) : Prop where
  lt : ∀ n, Q n = true → n < N
  big : N < 2 * cntf Q
theorem filt_two (f g h : Nat → Bool) : ∀ l : List Nat, (∀ n, ¬ (f n = true ∧ g n = true)) → (∀ n, f n = true → h n = true) → (∀ n, g n = true → h n = true) → (l.filter f).length + (l.filter g).length ≤ (l.filter h).length
  | [], _, _, _ => by simp
  | x :: l, h0, h1, h2 => by
    have ih := filt_two f g h l h0 h1 h2
    simp only [List.filter_cons]
    cases hf : f x with
    | true =>
      have hg : g x = false := by
        cases hg : g x with
        | false => rfl
        | true => exact absurd ⟨hf, hg⟩ (h0 x)
      rw [h1 x hf, hg]
      simp only [if_true, Bool.false_eq_true, if_false, List.length_cons]; omega
    | false =>
      cases hg : g x with
      | true =>
        rw [h2 x hg]
        simp only [if_true, Bool.false_eq_true, if_false, List.length_cons]; omega
      | false =>
        simp only [Bool.false_eq_true, if_false]
        split
        · simp only [List.length_cons]; omega
        · exact ih
theorem cntf_lt {N : Nat} (hN : N ≤ 7) : cntf (fun n => decide (n < N)) = N := by
  have : N = 0 ∨ N = 1 ∨ N = 2 ∨ N = 3 ∨ N = 4 ∨ N = 5 ∨ N = 6 ∨ N = 7 := by omega
  rcases this with rfl | rfl | rfl | rfl | rfl | rfl | rfl | rfl <;> decide
theorem quor_meet {N : Nat} (hN : N ≤ 7) {Q R : Nat → Bool} (hq : Quor N Q) (hr : Quor N R) : ∃ n, Q n = true ∧ R n = true := by
  by_cases h : ∃ n, Q n = true ∧ R n = true
  · exact h
  · exfalso
    have := filt_two Q R (fun n => decide (n < N)) (List.range 7) (fun n hn => h ⟨n, hn⟩) (fun n hn => by simpa using hq.lt n hn) (fun n hn => by simpa using hr.lt n hn)
    have e := cntf_lt hN
    have h1 := hq.big
    have h2 := hr.big
    unfold cntf at e h1 h2
    omega
theorem quor_one {m : Nat} (h : m = 0) : Quor 1 (fun n => n == m) := by
  subst h
  exact ⟨fun n hn => by simp at hn; omega, by decide⟩
end Go.Proofs.YtfadalgikdffeaaGreat.EVT
/- Chapter 40: the law VoteKeeps, in plain words. -/
set_option linter.unusedVariables false
set_option linter.unusedSimpArgs false
set_option maxRecDepth 10000
namespace Go.Proofs.YtfadalgikdffeaaGreat.EVT
open Go Go.EV
theorem cnt_keeps {b : Bal} (h : okB b) (kd fr tu te : Int) (ye : Bool) : Keeps1 b (cnt b kd fr tu te ye) := by
  unfold cnt
  split
  · exact keeps_refl h
  · rename_i hh
    have hc : con b.1 b.2.1 fr tu te = true := by
      cases hcc : con b.1 b.2.1 fr tu te
      · exact (hh (.inr hcc)).elim
      · rfl
    have hk := obs_keeps h te
    obtain ⟨_, c2, c3, c4, c5, c6⟩ := con_iff.1 hc
    dsimp only
    split
    · exact hk
    · rename_i hd
      obtain ⟨k1, k2, k3, k4, k5⟩ := hk
      have e2 : (obs b te).2.2.2.1 = 1 := by
        by_cases e : (obs b te).2.2.2.1 = 1
        · exact e
        · exact (hd (.inr (.inl e))).elim
      have k1' := k1
      unfold okB at k1'
      rw [e2] at k1'
      obtain ⟨a1, a2⟩ := chk_counted k1' ⟨c3, show fr < (obs b te).2.1 by rw [k3]; exact c4⟩
      split
      · rename_i hq
        exact ⟨a1 hq, k2, k3, k4, k5⟩
      · rename_i hq
        refine ⟨?_, k2, k3, k4, k5⟩
        show chk (obs b te).1 (obs b te).2.1 (obs b te).2.2.1 (obs b te).2.2.2.1 (obs b te).2.2.2.2.1 (obs b te).2.2.2.2.2.1 (cntVs fr (obs b te).2.2.2.2.2.2) = 0
        rw [e2]
        exact a2 (by simpa using hq)
theorem chk_eq {nd ns tm rl vd ld : Int} {vs : List Int} : okB (nd, ns, tm, rl, vd, ld, vs) ↔ chk nd ns tm rl vd ld vs = 0 := Iff.rfl
theorem g24_ok {b x : Bal} (hb : okB b) (h : Keeps1 b x) : g24 x.1 x.2.1 x.2.2.1 x.2.2.2.1 x.2.2.2.2.1 x.2.2.2.2.2.1 x.2.2.2.2.2.2 = some 0 := by
  obtain ⟨h1, _, _, _, h5, _⟩ := chk_iff.1 h.1
  have hl := okB_len h.1
  have hm : maxLen = 9223372036854775807 := rfl
  rw [g24_eq (by unfold okN at h1; omega) (by omega)]
  exact congrArg some h.1
end Go.Proofs.YtfadalgikdffeaaGreat.EVT
/- Small words on printed functions. -/
set_option linter.unusedVariables false
namespace Go.Proofs.YtfadalgikdffeaaGreat.EVT
open Go Go.EV
theorem ct {α : Type} {b : Bool} {x y : α} (h : b = true) : cond b x y = x := by rw [h]; rfl
theorem cf {α : Type} {b : Bool} {x y : α} (h : b = false) : cond b x y = y := by rw [h]; rfl
theorem loopN_s {σ O : Type} (st : (σ → Option O) → σ → Option O) (n : Nat) (v : σ) : loopN st (n + 1) v = st (loopN st n) v := rfl
theorem in_rng {a n : Int} (h0 : 0 ≤ a) (h1 : a < n) : (decide (0 ≤ a) && decide (a < n)) = true := by simp [h0, h1]
theorem in_rng2 {a n : Int} (h0 : 0 ≤ a) (h1 : a ≤ n) : (decide (0 ≤ a) && decide (a ≤ n) && true) = true := by simp [h0, h1]
end Go.Proofs.YtfadalgikdffeaaGreat.EVT
