/- Chapter 40: ballots, in plain words: what is asked of them, what the calls answer. -/
import Derived.Test.YtehjeifbgegabaaTv13
set_option linter.unusedVariables false
set_option linter.unusedSimpArgs false
namespace Go.Proofs.Ytehjeifbgegabaa.EVT
open Go Go.EV
def quo (a b : Int) : Bool := decide (1 ≤ b) && decide (a > b / 2)
def cons (nd ns tm rl vd ld : Int) (vs : List Int) : Bool :=
  !(tm == 0 && (rl != 0 || vd != -1 || ld != -1)) &&
  (if (rl == 1) = true then vd == nd && ld == -1 && decide (nd ∈ vs) && !quo vs.length ns
   else if (rl == 2) = true then vd == nd && ld == nd && ((vs.length : Int) == 0)
   else ((vs.length : Int) == 0) && ld != nd)
def leP : Int → Option Int → Bool
  | v, some q => decide (v ≤ q)
  | _, none => false
/-- The votes, one after the other. -/
def vchk (ns : Int) : Option Int → List Int → Int
  | _, [] => 0
  | p, v :: r => if v < 0 ∨ v ≥ ns then 1 else if leP v p then 22 else vchk ns (some v) r
def pv (vs : List Int) : Nat → Option Int
  | 0 => none
  | i + 1 => vs[i]?
def okN (nd ns : Int) : Prop := 1 ≤ ns ∧ ns ≤ 7 ∧ 0 ≤ nd ∧ nd < ns
instance (nd ns : Int) : Decidable (okN nd ns) := by unfold okN; infer_instance
def chk (nd ns tm rl vd ld : Int) (vs : List Int) : Int :=
  if ¬ okN nd ns then 1 else if tm < 0 ∨ tm > 1099511627776 then 1 else if rl ≠ 0 ∧ rl ≠ 1 ∧ rl ≠ 2 then 10
  else if vd < -1 ∨ vd ≥ ns ∨ ld < -1 ∨ ld ≥ ns then 1 else if vchk ns none vs ≠ 0 then vchk ns none vs else if cons nd ns tm rl vd ld vs = true then 0 else 9
theorem vchk_of {ns : Int} : ∀ {vs : List Int} {p : Option Int}, vchk ns p vs = 0 → (∀ v ∈ vs, 0 ≤ v ∧ v < ns) ∧ vs.Pairwise (· < ·) ∧ ∀ q, p = some q → ∀ v ∈ vs, q < v
  | [], p, _ => by simp
  | v :: r, p, h => by
    rw [vchk] at h
    split at h
    · cases h
    · rename_i h1
      split at h
      · cases h
      · rename_i h2
        obtain ⟨a1, a2, a3⟩ := vchk_of h
        have a4 := a3 v rfl
        refine ⟨fun x hx => ?_, List.pairwise_cons.2 ⟨a4, a2⟩, fun q hq x hx => ?_⟩
        · rcases List.mem_cons.1 hx with rfl | hx
          · omega
          · exact a1 x hx
        · subst hq
          simp only [leP, decide_eq_true_eq] at h2
          rcases List.mem_cons.1 hx with rfl | hx
          · omega
          · have := a4 x hx; omega
theorem vchk_mk {ns : Int} : ∀ {vs : List Int} {p : Option Int}, (∀ v ∈ vs, 0 ≤ v ∧ v < ns) → vs.Pairwise (· < ·) → (∀ q, p = some q → ∀ v ∈ vs, q < v) → vchk ns p vs = 0
  | [], p, _, _, _ => rfl
  | v :: r, p, h1, h2, h3 => by
    rw [vchk, if_neg (by have := h1 v (by simp); omega), if_neg]
    · exact vchk_mk (fun x hx => h1 x (by simp [hx])) (List.pairwise_cons.1 h2).2 (fun q hq x hx => by cases hq; exact (List.pairwise_cons.1 h2).1 x hx)
    · cases p with
      | none => simp [leP]
      | some q => have := h3 q rfl v (by simp); simp [leP]; omega
theorem len_le {n : Nat} : ∀ {vs : List Int} {lo : Int}, 0 ≤ lo → (∀ v ∈ vs, lo ≤ v ∧ v < n) → vs.Pairwise (· < ·) → vs.length + lo ≤ n ∨ vs = []
  | [], lo, _, _, _ => .inr rfl
  | v :: r, lo, h0, h1, h2 => by
    have hv := h1 v (by simp)
    have hp := List.pairwise_cons.1 h2
    rcases len_le (n := n) (vs := r) (lo := v + 1) (by omega) (fun x hx => ⟨by have := hp.1 x hx; omega, (h1 x (by simp [hx])).2⟩) hp.2 with h | h
    · left; simp only [List.length_cons]; omega
    · subst h; left; simp; omega
theorem votes_len {ns : Int} {vs : List Int} (hns : 1 ≤ ns ∧ ns ≤ 7) (h : vchk ns none vs = 0) : vs.length ≤ 7 := by
  obtain ⟨a1, a2, _⟩ := vchk_of h
  rcases len_le (n := ns.toNat) (lo := 0) (by omega) (fun v hv => by have := a1 v hv; omega) a2 with h | h
  · omega
  · subst h; simp
def markF (fr : Int) (vs : List Int) (n : Nat) : Bool := vs.any (fun v => n == v.toNat) || n == fr.toNat
def selI (f : Nat → Bool) (j : Nat) : List Int := ((List.range j).filter f).map fun (n : Nat) => (n : Int)
def cntVs (fr : Int) (vs : List Int) : List Int := selI (markF fr vs) 7
def newer (lpr lix pr ix : Int) : Bool := decide (lpr > pr) || (lpr == pr && decide (lix ≥ ix))
def yesA (tm vd fr te lpr lix pr ix : Int) : Bool := te == tm && (vd == -1 || vd == fr) && newer lpr lix pr ix
theorem chk_iff {nd ns tm rl vd ld : Int} {vs : List Int} : chk nd ns tm rl vd ld vs = 0 ↔ okN nd ns ∧ (0 ≤ tm ∧ tm ≤ 1099511627776) ∧ (rl = 0 ∨ rl = 1 ∨ rl = 2) ∧ (-1 ≤ vd ∧ vd < ns ∧ -1 ≤ ld ∧ ld < ns) ∧ vchk ns none vs = 0 ∧ cons nd ns tm rl vd ld vs = true := by
  unfold chk
  constructor
  · intro h
    split at h
    · omega
    rename_i h1
    split at h
    · omega
    split at h
    · omega
    split at h
    · omega
    split at h
    · rename_i h5; exact absurd h h5
    rename_i h5
    split at h
    · rename_i h6
      exact ⟨by simpa using h1, by omega, by omega, by omega, by simpa using h5, h6⟩
    · omega
  · rintro ⟨h1, h2, h3, h4, h5, h6⟩
    rw [if_neg (by simpa using h1), if_neg (by omega), if_neg (by omega), if_neg (by omega), if_neg (by simpa using h5), if_pos h6]
theorem chk_follow {nd ns t : Int} (h : okN nd ns) (h1 : 1 ≤ t ∧ t ≤ 1099511627776) (vd : Int) (h2 : -1 ≤ vd ∧ vd < ns) : chk nd ns t 0 vd (-1) [] = 0 := by
  have hh := h
  unfold okN at hh
  refine chk_iff.2 ⟨h, by omega, .inl rfl, by omega, rfl, ?_⟩
  have e1 : (t == 0) = false := by simp; omega
  have e2 : ((-1 : Int) != nd) = true := by simp; omega
  simp [cons, e1, e2]
theorem chk_leads {nd ns t : Int} (h : okN nd ns) (h1 : 1 ≤ t ∧ t ≤ 1099511627776) : chk nd ns t 2 nd nd [] = 0 := by
  have hh := h
  unfold okN at hh
  refine chk_iff.2 ⟨h, by omega, .inr (.inr rfl), by omega, rfl, ?_⟩
  have e1 : (t == 0) = false := by simp; omega
  simp [cons, e1]
theorem chk_stands {nd ns t : Int} (h : okN nd ns) (h0 : ns ≠ 1) (h1 : 1 ≤ t ∧ t ≤ 1099511627776) : chk nd ns t 1 nd (-1) [nd] = 0 := by
  have hh := h
  unfold okN at hh
  have hv : vchk ns none [nd] = 0 := vchk_mk (by simp; omega) (by simp) (by simp)
  refine chk_iff.2 ⟨h, by omega, .inr (.inl rfl), by omega, hv, ?_⟩
  have e1 : (t == 0) = false := by simp; omega
  have e2 : quo ([nd].length : Int) ns = false := by simp [quo]; omega
  simp [cons, e1]
  simpa using e2
theorem cntVs_mem {fr : Int} {vs : List Int} {x : Int} : x ∈ cntVs fr vs ↔ ∃ n : Nat, n < 7 ∧ markF fr vs n = true ∧ x = n := by
  unfold cntVs selI
  simp only [List.mem_map, List.mem_filter, List.mem_range]
  constructor
  · rintro ⟨n, ⟨h1, h2⟩, rfl⟩; exact ⟨n, h1, h2, rfl⟩
  · rintro ⟨n, h1, h2, rfl⟩; exact ⟨n, ⟨h1, h2⟩, rfl⟩
theorem cntVs_ok {ns fr : Int} {vs : List Int} (hns : 1 ≤ ns ∧ ns ≤ 7) (hf : 0 ≤ fr ∧ fr < ns) (hv : ∀ v ∈ vs, 0 ≤ v ∧ v < ns) : vchk ns none (cntVs fr vs) = 0 := by
  refine vchk_mk (fun x hx => ?_) ?_ (by simp)
  · obtain ⟨n, h1, h2, rfl⟩ := cntVs_mem.1 hx
    unfold markF at h2
    simp only [Bool.or_eq_true, List.any_eq_true, beq_iff_eq] at h2
    rcases h2 with ⟨v, h2, h3⟩ | h2
    · have := hv v h2; omega
    · omega
  · unfold cntVs selI
    refine List.Pairwise.map _ (R := fun a b : Nat => a < b) (fun a b h => by omega) ?_
    exact List.Pairwise.filter _ List.pairwise_lt_range
theorem cntVs_has {ns fr nd : Int} {vs : List Int} (hns : 1 ≤ ns ∧ ns ≤ 7) (hv : ∀ v ∈ vs, 0 ≤ v ∧ v < ns) (h : nd ∈ vs) : nd ∈ cntVs fr vs := by
  have := hv nd h
  refine cntVs_mem.2 ⟨nd.toNat, by omega, ?_, by omega⟩
  unfold markF
  simp only [Bool.or_eq_true, List.any_eq_true, beq_iff_eq]
  exact .inl ⟨nd, h, rfl⟩
theorem chk_counted {nd ns tm vd ld fr : Int} {vs : List Int} (h : chk nd ns tm 1 vd ld vs = 0) (hf : 0 ≤ fr ∧ fr < ns) : (quo (cntVs fr vs).length ns = true → chk nd ns tm 2 vd nd [] = 0) ∧ (quo (cntVs fr vs).length ns = false → chk nd ns tm 1 vd ld (cntVs fr vs) = 0) := by
  obtain ⟨h1, h2, h3, h4, h5, h6⟩ := chk_iff.1 h
  have hh := h1
  unfold okN at hh
  obtain ⟨a1, a2, _⟩ := vchk_of h5
  simp only [cons, Bool.and_eq_true, Bool.not_eq_true'] at h6
  obtain ⟨b1, b2⟩ := h6
  rw [if_pos (by decide)] at b2
  simp only [Bool.and_eq_true, beq_iff_eq, decide_eq_true_eq, Bool.not_eq_true'] at b2
  obtain ⟨⟨⟨rfl, rfl⟩, b3⟩, b4⟩ := b2
  have ht : tm ≠ 0 := by
    intro e
    subst e
    simp at b1
  have e1 : (tm == 0) = false := by simp [ht]
  refine ⟨fun _ => chk_leads h1 (by omega), fun hq => ?_⟩
  have hm := cntVs_has (fr := fr) (by omega : 1 ≤ ns ∧ ns ≤ 7) a1 b3
  refine chk_iff.2 ⟨h1, h2, h3, h4, cntVs_ok (by omega) hf a1, ?_⟩
  simp [cons, e1, hm, hq]
theorem chk_votes {nd ns tm rl ld fr : Int} {vs : List Int} (h : chk nd ns tm rl (-1) ld vs = 0) (hf : 0 ≤ fr ∧ fr < ns) (ht : 1 ≤ tm) : chk nd ns tm rl fr ld vs = 0 := by
  obtain ⟨h1, h2, h3, h4, h5, h6⟩ := chk_iff.1 h
  have hh := h1
  unfold okN at hh
  have e1 : (tm == 0) = false := by simp; omega
  have e2 : ((-1 : Int) == nd) = false := by simp; omega
  refine chk_iff.2 ⟨h1, h2, h3, by omega, h5, ?_⟩
  rcases h3 with rfl | rfl | rfl
  · simp [cons, e1] at h6 ⊢
    exact h6
  · simp [cons, e1, e2] at h6
  · simp [cons, e1, e2] at h6
end Go.Proofs.Ytehjeifbgegabaa.EVT
